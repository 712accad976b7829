/- Intervals, walked: the program's checks, products, spans. -/
import Derived.Test.YtdognchniaojoaaB1
import Derived.Test.YtdognchniaojoaaSP0
set_option linter.all false
namespace Go.Proofs.Ytdognchniaojoaa
open Go Go.Vx
set_option maxRecDepth 100000
set_option maxHeartbeats 4000000

def v43 : VF := { ntmps := 9, res := [.tmp 2], body :=
 (.seq (.region [⟨(some 2), none, .mov, [.cn (.bool false)]⟩])
 (.seq (.region [⟨(some 3), none, .mov, [.tm 0]⟩,
  ⟨(some 4), none, (.cmp .geq), [.tm 3, .cn (.int .i64 (-4611686018427387904))]⟩,
  ⟨(some 5), none, .mov, [.tm 4]⟩,
  ⟨(some 6), (some (5, true)), .mov, [.tm 0]⟩,
  ⟨(some 7), (some (5, true)), (.cmp .leq), [.tm 6, .cn (.int .i64 4611686018427387904)]⟩,
  ⟨(some 8), none, .and, [.tm 5, .tm 7]⟩,
  ⟨(some 2), none, .mov, [.tm 8]⟩])
 .ret)) }
theorem v43_is : vfunc Try.prog Try.f43 = some v43 := by kernel_rfl
def v42 : VF := { ntmps := 36, res := [.tmp 2], body :=
 (.seq (.region [⟨(some 2), none, .mov, [.cn (.int .i64 0)]⟩])
 (.seq (.seq (.region [⟨(some 7), none, .mov, [.tm 0]⟩,
  ⟨(some 8), none, .len, [.tm 7]⟩,
  ⟨(some 9), none, .mov, [.cn (.int .i64 0)]⟩])
 (.block 0 (.loop (.seq (.region [⟨(some 10), none, (.cmp .lss), [.tm 9, .tm 8]⟩])
 (.seq (.cond (.tm 10) .skip
  (.exit 0))
 (.seq (.block 1 (.seq (.region [⟨(some 11), none, (.idxAddr 2), [.tm 7, .tm 9]⟩,
  ⟨(some 12), none, (.load true 2), [.tm 11]⟩,
  ⟨(some 4), none, (.alloc [(.int .i64 0), (.int .i64 0)]), []⟩,
  ⟨none, none, (.store 2), [.tm 4, .tm 12]⟩])
 (.seq (.region [⟨(some 13), none, (.fieldAddr 0), [.tm 4]⟩,
  ⟨(some 14), none, (.load false 1), [.tm 13]⟩,
  ⟨(some 15), none, (.call 43), [.tm 14]⟩,
  ⟨(some 16), none, .not, [.tm 15]⟩,
  ⟨(some 17), none, .mov, [.tm 16]⟩,
  ⟨(some 18), (some (17, false)), (.fieldAddr 1), [.tm 4]⟩,
  ⟨(some 19), (some (17, false)), (.load false 1), [.tm 18]⟩,
  ⟨(some 20), (some (17, false)), (.call 43), [.tm 19]⟩,
  ⟨(some 21), (some (17, false)), .not, [.tm 20]⟩,
  ⟨(some 22), none, .or, [.tm 17, .tm 21]⟩])
 (.cond (.tm 22) (.seq (.region [⟨(some 2), none, .mov, [.cn (.int .i64 7)]⟩])
 .ret)
  .skip))))
 (.region [⟨(some 23), none, (.ari .add), [.tm 9, .cn (.int .i64 1)]⟩,
  ⟨(some 9), none, .mov, [.tm 23]⟩])))))))
 (.seq (.seq (.region [⟨(some 24), none, .mov, [.tm 0]⟩,
  ⟨(some 25), none, .len, [.tm 24]⟩,
  ⟨(some 26), none, .mov, [.cn (.int .i64 0)]⟩])
 (.block 2 (.loop (.seq (.region [⟨(some 27), none, (.cmp .lss), [.tm 26, .tm 25]⟩])
 (.seq (.cond (.tm 27) .skip
  (.exit 2))
 (.seq (.block 3 (.seq (.region [⟨(some 28), none, (.idxAddr 2), [.tm 24, .tm 26]⟩,
  ⟨(some 29), none, (.load true 2), [.tm 28]⟩,
  ⟨(some 6), none, (.alloc [(.int .i64 0), (.int .i64 0)]), []⟩,
  ⟨none, none, (.store 2), [.tm 6, .tm 29]⟩])
 (.seq (.region [⟨(some 30), none, (.fieldAddr 0), [.tm 6]⟩,
  ⟨(some 31), none, (.load false 1), [.tm 30]⟩,
  ⟨(some 32), none, (.fieldAddr 1), [.tm 6]⟩,
  ⟨(some 33), none, (.load false 1), [.tm 32]⟩,
  ⟨(some 34), none, (.cmp .gtr), [.tm 31, .tm 33]⟩])
 (.cond (.tm 34) (.seq (.region [⟨(some 2), none, .mov, [.cn (.int .i64 2)]⟩])
 .ret)
  .skip))))
 (.region [⟨(some 35), none, (.ari .add), [.tm 26, .cn (.int .i64 1)]⟩,
  ⟨(some 26), none, .mov, [.tm 35]⟩])))))))
 (.seq (.region [⟨(some 2), none, .mov, [.cn (.int .i64 0)]⟩])
 .ret)))) }
theorem v42_is : vfunc Try.prog Try.f42 = some v42 := by kernel_rfl
def v51 : VF := { ntmps := 8, res := [.tmp 2], body :=
 (.seq (.region [⟨(some 2), none, .mov, [.cn (.int .u64 0)]⟩])
 (.seq (.region [⟨(some 3), none, .mov, [.tm 0]⟩,
  ⟨(some 4), none, .mov, [.tm 0]⟩,
  ⟨(some 5), none, .neg, [.tm 4]⟩,
  ⟨(some 6), none, .max, [.tm 3, .tm 5]⟩,
  ⟨(some 7), none, (.conv .u64), [.tm 6]⟩,
  ⟨(some 2), none, .mov, [.tm 7]⟩])
 .ret)) }
theorem v51_is : vfunc Try.prog Try.f51 = some v51 := by kernel_rfl
def v45 : VF := { ntmps := 29, res := [.cell 4 true 3], body :=
 (.seq (.region [⟨(some 4), none, (.alloc [(.bool false), (.int .u64 0), (.int .u64 0)]), []⟩])
 (.seq (.region [⟨(some 8), none, .mov, [.tm 0]⟩,
  ⟨(some 9), none, (.call 51), [.tm 8]⟩,
  ⟨(some 10), none, .mov, [.tm 1]⟩,
  ⟨(some 11), none, (.call 51), [.tm 10]⟩,
  ⟨(some 12), none, (.call 67), [.tm 9, .tm 11]⟩,
  ⟨(some 7), none, .mov, [.tm 12]⟩,
  ⟨(some 13), none, (.ext 0), [.tm 7]⟩,
  ⟨(some 14), none, (.ext 1), [.tm 7]⟩,
  ⟨(some 5), none, .mov, [.tm 13]⟩,
  ⟨(some 6), none, .mov, [.tm 14]⟩])
 (.seq (.region [⟨(some 15), none, .mov, [.tm 0]⟩,
  ⟨(some 16), none, (.cmp .lss), [.tm 15, .cn (.int .i64 0)]⟩,
  ⟨(some 17), none, .mov, [.tm 1]⟩,
  ⟨(some 18), none, (.cmp .lss), [.tm 17, .cn (.int .i64 0)]⟩,
  ⟨(some 19), none, (.eqb true), [.tm 16, .tm 18]⟩,
  ⟨(some 20), none, .mov, [.tm 19]⟩,
  ⟨(some 21), (some (20, true)), .mov, [.tm 5]⟩,
  ⟨(some 22), (some (20, true)), .mov, [.tm 6]⟩,
  ⟨(some 23), (some (20, true)), (.bit .or), [.tm 21, .tm 22]⟩,
  ⟨(some 24), (some (20, true)), (.cmp .neq), [.tm 23, .cn (.int .u64 0)]⟩,
  ⟨(some 25), none, .and, [.tm 20, .tm 24]⟩,
  ⟨(some 26), none, .mov, [.tm 5]⟩,
  ⟨(some 27), none, .mov, [.tm 6]⟩,
  ⟨(some 28), none, (.build [(.bool false), (.int .u64 0), (.int .u64 0)] [(0, 1), (1, 1), (2, 1)]), [.tm 25, .tm 26, .tm 27]⟩,
  ⟨none, none, (.store 3), [.tm 4, .tm 28]⟩])
 .ret))) }
theorem v45_is : vfunc Try.prog Try.f45 = some v45 := by kernel_rfl
def v66 : VF := { ntmps := 39, res := [.tmp 4], body :=
 (.seq (.region [⟨(some 2), none, .box, [.tm 0]⟩,
  ⟨(some 3), none, .box, [.tm 1]⟩,
  ⟨(some 4), none, .mov, [.cn (.bool false)]⟩])
 (.seq (.seq (.region [⟨(some 6), none, (.load true 3), [.tm 2]⟩,
  ⟨(some 7), none, (.load true 3), [.tm 3]⟩,
  ⟨(some 8), none, (.eqv false [false, true, true]), [.tm 6, .tm 7]⟩])
 (.cond (.tm 8) (.seq (.region [⟨(some 4), none, .mov, [.cn (.bool false)]⟩])
 .ret)
  .skip))
 (.seq (.seq (.region [⟨(some 9), none, (.fieldAddr 0), [.tm 2]⟩,
  ⟨(some 10), none, (.load false 1), [.tm 9]⟩,
  ⟨(some 11), none, (.fieldAddr 0), [.tm 3]⟩,
  ⟨(some 12), none, (.load false 1), [.tm 11]⟩,
  ⟨(some 13), none, (.eqb true), [.tm 10, .tm 12]⟩])
 (.cond (.tm 13) (.seq (.region [⟨(some 14), none, (.fieldAddr 0), [.tm 2]⟩,
  ⟨(some 15), none, (.load false 1), [.tm 14]⟩,
  ⟨(some 4), none, .mov, [.tm 15]⟩])
 .ret)
  .skip))
 (.seq (.region [⟨(some 16), none, (.fieldAddr 1), [.tm 2]⟩,
  ⟨(some 17), none, (.load false 1), [.tm 16]⟩,
  ⟨(some 18), none, (.fieldAddr 1), [.tm 3]⟩,
  ⟨(some 19), none, (.load false 1), [.tm 18]⟩,
  ⟨(some 20), none, (.cmp .lss), [.tm 17, .tm 19]⟩,
  ⟨(some 21), none, .mov, [.tm 20]⟩,
  ⟨(some 22), (some (21, false)), (.fieldAddr 1), [.tm 2]⟩,
  ⟨(some 23), (some (21, false)), (.load false 1), [.tm 22]⟩,
  ⟨(some 24), (some (21, false)), (.fieldAddr 1), [.tm 3]⟩,
  ⟨(some 25), (some (21, false)), (.load false 1), [.tm 24]⟩,
  ⟨(some 26), (some (21, false)), (.cmp .eql), [.tm 23, .tm 25]⟩,
  ⟨(some 27), (some (21, false)), .mov, [.tm 26]⟩,
  ⟨(some 28), (some (27, true)), (.fieldAddr 2), [.tm 2]⟩,
  ⟨(some 29), (some (27, true)), (.load false 1), [.tm 28]⟩,
  ⟨(some 30), (some (27, true)), (.fieldAddr 2), [.tm 3]⟩,
  ⟨(some 31), (some (27, true)), (.load false 1), [.tm 30]⟩,
  ⟨(some 32), (some (27, true)), (.cmp .lss), [.tm 29, .tm 31]⟩,
  ⟨(some 33), (some (21, false)), .and, [.tm 27, .tm 32]⟩,
  ⟨(some 34), none, .or, [.tm 21, .tm 33]⟩,
  ⟨(some 5), none, .mov, [.tm 34]⟩])
 (.seq (.region [⟨(some 35), none, .mov, [.tm 5]⟩,
  ⟨(some 36), none, (.fieldAddr 0), [.tm 2]⟩,
  ⟨(some 37), none, (.load false 1), [.tm 36]⟩,
  ⟨(some 38), none, (.eqb true), [.tm 35, .tm 37]⟩,
  ⟨(some 4), none, .mov, [.tm 38]⟩])
 .ret))))) }
theorem v66_is : vfunc Try.prog Try.f66 = some v66 := by kernel_rfl
def v62 : VF := { ntmps := 56, res := [.tmp 6, .tmp 7], body :=
 (.seq (.region [⟨(some 3), none, .box, [.tm 0]⟩,
  ⟨(some 6), none, .mov, [.cn (.int .i64 0)]⟩,
  ⟨(some 7), none, .mov, [.cn (.bool false)]⟩])
 (.seq (.seq (.region [⟨(some 10), none, (.fieldAddr 1), [.tm 3]⟩,
  ⟨(some 11), none, (.load false 1), [.tm 10]⟩,
  ⟨(some 12), none, .mov, [.tm 1]⟩,
  ⟨(some 13), none, (.cmp .geq), [.tm 11, .tm 12]⟩])
 (.cond (.tm 13) (.seq (.region [⟨(some 6), none, .mov, [.cn (.int .i64 0)]⟩,
  ⟨(some 7), none, .mov, [.cn (.bool false)]⟩])
 .ret)
  .skip))
 (.seq (.region [⟨(some 15), none, (.fieldAddr 1), [.tm 3]⟩,
  ⟨(some 16), none, (.load false 1), [.tm 15]⟩,
  ⟨(some 17), none, (.fieldAddr 2), [.tm 3]⟩,
  ⟨(some 18), none, (.load false 1), [.tm 17]⟩,
  ⟨(some 19), none, .mov, [.tm 1]⟩,
  ⟨(some 20), none, (.call 83), [.tm 16, .tm 18, .tm 19]⟩,
  ⟨(some 14), none, .mov, [.tm 20]⟩,
  ⟨(some 21), none, (.ext 0), [.tm 14]⟩,
  ⟨(some 22), none, (.ext 1), [.tm 14]⟩,
  ⟨(some 8), none, .mov, [.tm 21]⟩,
  ⟨(some 9), none, .mov, [.tm 22]⟩])
 (.seq (.seq (.region [⟨(some 23), none, .mov, [.tm 9]⟩,
  ⟨(some 24), none, (.cmp .neq), [.tm 23, .cn (.int .u64 0)]⟩,
  ⟨(some 25), none, .mov, [.tm 24]⟩,
  ⟨(some 26), (some (25, true)), .mov, [.tm 2]⟩,
  ⟨(some 27), (some (25, true)), (.fieldAddr 0), [.tm 3]⟩,
  ⟨(some 28), (some (25, true)), (.load false 1), [.tm 27]⟩,
  ⟨(some 29), (some (25, true)), (.eqb true), [.tm 26, .tm 28]⟩,
  ⟨(some 30), none, .and, [.tm 25, .tm 29]⟩])
 (.cond (.tm 30) (.region [⟨(some 31), none, .mov, [.tm 8]⟩,
  ⟨(some 32), none, (.ari .add), [.tm 31, .cn (.int .u64 1)]⟩,
  ⟨(some 8), none, .mov, [.tm 32]⟩])
  .skip))
 (.seq (.seq (.region [⟨(some 33), none, .mov, [.tm 8]⟩,
  ⟨(some 34), none, (.cmp .gtr), [.tm 33, .cn (.int .u64 4611686018427387904)]⟩,
  ⟨(some 35), none, .mov, [.tm 34]⟩,
  ⟨(some 36), (some (35, false)), .mov, [.tm 8]⟩,
  ⟨(some 37), (some (35, false)), (.cmp .eql), [.tm 36, .cn (.int .u64 0)]⟩,
  ⟨(some 38), (some (35, false)), .mov, [.tm 37]⟩,
  ⟨(some 39), (some (38, true)), .mov, [.tm 9]⟩,
  ⟨(some 40), (some (38, true)), (.cmp .neq), [.tm 39, .cn (.int .u64 0)]⟩,
  ⟨(some 41), (some (35, false)), .and, [.tm 38, .tm 40]⟩,
  ⟨(some 42), (some (35, false)), .mov, [.tm 41]⟩,
  ⟨(some 43), (some (42, true)), .mov, [.tm 2]⟩,
  ⟨(some 44), (some (42, true)), (.fieldAddr 0), [.tm 3]⟩,
  ⟨(some 45), (some (42, true)), (.load false 1), [.tm 44]⟩,
  ⟨(some 46), (some (42, true)), (.eqb true), [.tm 43, .tm 45]⟩,
  ⟨(some 47), (some (35, false)), .and, [.tm 42, .tm 46]⟩,
  ⟨(some 48), none, .or, [.tm 35, .tm 47]⟩])
 (.cond (.tm 48) (.seq (.region [⟨(some 6), none, .mov, [.cn (.int .i64 0)]⟩,
  ⟨(some 7), none, .mov, [.cn (.bool false)]⟩])
 .ret)
  .skip))
 (.seq (.seq (.region [⟨(some 49), none, (.fieldAddr 0), [.tm 3]⟩,
  ⟨(some 50), none, (.load false 1), [.tm 49]⟩])
 (.cond (.tm 50) (.seq (.region [⟨(some 51), none, .mov, [.tm 8]⟩,
  ⟨(some 52), none, (.conv .i64), [.tm 51]⟩,
  ⟨(some 53), none, .neg, [.tm 52]⟩,
  ⟨(some 6), none, .mov, [.tm 53]⟩,
  ⟨(some 7), none, .mov, [.cn (.bool true)]⟩])
 .ret)
  .skip))
 (.seq (.region [⟨(some 54), none, .mov, [.tm 8]⟩,
  ⟨(some 55), none, (.conv .i64), [.tm 54]⟩,
  ⟨(some 6), none, .mov, [.tm 55]⟩,
  ⟨(some 7), none, .mov, [.cn (.bool true)]⟩])
 .ret))))))) }
theorem v62_is : vfunc Try.prog Try.f62 = some v62 := by kernel_rfl
def v44 : VF := { ntmps := 58, res := [.cell 4 true 2, .tmp 5], body :=
 (.seq (.region [⟨(some 4), none, (.alloc [(.int .i64 0), (.int .i64 0)]), []⟩,
  ⟨(some 5), none, .mov, [.cn (.int .i64 0)]⟩])
 (.seq (.draw [(6, .box [(.bool false), (.int .u64 0), (.int .u64 0)]), (7, .box [(.bool false), (.int .u64 0), (.int .u64 0)])] [⟨⟨(some 14), none, .mov, [.tm 1]⟩, []⟩,
  ⟨⟨(some 15), none, (.idxAddr 3), [.tm 14, .cn (.int .i64 0)]⟩, []⟩,
  ⟨⟨(some 16), none, (.load true 3), [.tm 15]⟩, []⟩,
  ⟨⟨(some 17), none, .mov, [.tm 1]⟩, []⟩,
  ⟨⟨(some 18), none, (.idxAddr 3), [.tm 17, .cn (.int .i64 0)]⟩, []⟩,
  ⟨⟨(some 19), none, (.load true 3), [.tm 18]⟩, []⟩,
  ⟨⟨none, none, (.store 3), [.tm 6, .tm 16]⟩, [.tm 18]⟩,
  ⟨⟨none, none, (.store 3), [.tm 7, .tm 19]⟩, []⟩])
 (.seq (.seq (.region [⟨(some 20), none, .mov, [.tm 1]⟩,
  ⟨(some 21), none, (.slice 3 true false), [.tm 20, .cn (.int .i64 1)]⟩,
  ⟨(some 22), none, .len, [.tm 21]⟩,
  ⟨(some 23), none, .mov, [.cn (.int .i64 0)]⟩])
 (.block 0 (.loop (.seq (.region [⟨(some 24), none, (.cmp .lss), [.tm 23, .tm 22]⟩])
 (.seq (.cond (.tm 24) .skip
  (.exit 0))
 (.seq (.block 1 (.seq (.region [⟨(some 25), none, (.idxAddr 3), [.tm 21, .tm 23]⟩,
  ⟨(some 26), none, (.load true 3), [.tm 25]⟩,
  ⟨(some 9), none, (.alloc [(.bool false), (.int .u64 0), (.int .u64 0)]), []⟩,
  ⟨none, none, (.store 3), [.tm 9, .tm 26]⟩])
 (.seq (.seq (.region [⟨(some 27), none, (.load true 3), [.tm 9]⟩,
  ⟨(some 28), none, (.load true 3), [.tm 6]⟩,
  ⟨(some 29), none, (.call 66), [.tm 27, .tm 28]⟩])
 (.cond (.tm 29) (.region [⟨(some 30), none, (.load true 3), [.tm 9]⟩,
  ⟨none, none, (.store 3), [.tm 6, .tm 30]⟩])
  .skip))
 (.seq (.region [⟨(some 31), none, (.load true 3), [.tm 7]⟩,
  ⟨(some 32), none, (.load true 3), [.tm 9]⟩,
  ⟨(some 33), none, (.call 66), [.tm 31, .tm 32]⟩])
 (.cond (.tm 33) (.region [⟨(some 34), none, (.load true 3), [.tm 9]⟩,
  ⟨none, none, (.store 3), [.tm 7, .tm 34]⟩])
  .skip)))))
 (.region [⟨(some 35), none, (.ari .add), [.tm 23, .cn (.int .i64 1)]⟩,
  ⟨(some 23), none, .mov, [.tm 35]⟩])))))))
 (.seq (.region [⟨(some 37), none, (.load true 3), [.tm 6]⟩,
  ⟨(some 38), none, .mov, [.tm 0]⟩,
  ⟨(some 39), none, (.call 62), [.tm 37, .tm 38, .cn (.bool false)]⟩,
  ⟨(some 36), none, .mov, [.tm 39]⟩,
  ⟨(some 40), none, (.ext 0), [.tm 36]⟩,
  ⟨(some 41), none, (.ext 1), [.tm 36]⟩,
  ⟨(some 10), none, .mov, [.tm 40]⟩,
  ⟨(some 11), none, .mov, [.tm 41]⟩])
 (.seq (.region [⟨(some 43), none, (.load true 3), [.tm 7]⟩,
  ⟨(some 44), none, .mov, [.tm 0]⟩,
  ⟨(some 45), none, (.call 62), [.tm 43, .tm 44, .cn (.bool true)]⟩,
  ⟨(some 42), none, .mov, [.tm 45]⟩,
  ⟨(some 46), none, (.ext 0), [.tm 42]⟩,
  ⟨(some 47), none, (.ext 1), [.tm 42]⟩,
  ⟨(some 12), none, .mov, [.tm 46]⟩,
  ⟨(some 13), none, .mov, [.tm 47]⟩])
 (.seq (.seq (.region [⟨(some 48), none, .mov, [.tm 11]⟩,
  ⟨(some 49), none, .not, [.tm 48]⟩,
  ⟨(some 50), none, .mov, [.tm 49]⟩,
  ⟨(some 51), (some (50, false)), .mov, [.tm 13]⟩,
  ⟨(some 52), (some (50, false)), .not, [.tm 51]⟩,
  ⟨(some 53), none, .or, [.tm 50, .tm 52]⟩])
 (.cond (.tm 53) (.seq (.region [⟨(some 54), none, (.build [(.int .i64 0), (.int .i64 0)] []), []⟩,
  ⟨none, none, (.store 2), [.tm 4, .tm 54]⟩,
  ⟨(some 5), none, .mov, [.cn (.int .i64 7)]⟩])
 .ret)
  .skip))
 (.seq (.region [⟨(some 55), none, .mov, [.tm 10]⟩,
  ⟨(some 56), none, .mov, [.tm 12]⟩,
  ⟨(some 57), none, (.build [(.int .i64 0), (.int .i64 0)] [(0, 1), (1, 1)]), [.tm 55, .tm 56]⟩,
  ⟨none, none, (.store 2), [.tm 4, .tm 57]⟩,
  ⟨(some 5), none, .mov, [.cn (.int .i64 0)]⟩])
 .ret))))))) }
theorem v44_is : vfunc Try.prog Try.f44 = some v44 := by kernel_rfl
def v61 : VF := { ntmps := 18, res := [.cell 4 true 2, .tmp 5], body :=
 (.seq (.region [⟨(some 4), none, (.alloc [(.int .i64 0), (.int .i64 0)]), []⟩,
  ⟨(some 5), none, .mov, [.cn (.int .i64 0)]⟩])
 (.seq (.seq (.region [⟨(some 6), none, .mov, [.tm 0]⟩,
  ⟨(some 7), none, (.call 43), [.tm 6]⟩,
  ⟨(some 8), none, .not, [.tm 7]⟩,
  ⟨(some 9), none, .mov, [.tm 8]⟩,
  ⟨(some 10), (some (9, false)), .mov, [.tm 1]⟩,
  ⟨(some 11), (some (9, false)), (.call 43), [.tm 10]⟩,
  ⟨(some 12), (some (9, false)), .not, [.tm 11]⟩,
  ⟨(some 13), none, .or, [.tm 9, .tm 12]⟩])
 (.cond (.tm 13) (.seq (.region [⟨(some 14), none, (.build [(.int .i64 0), (.int .i64 0)] []), []⟩,
  ⟨none, none, (.store 2), [.tm 4, .tm 14]⟩,
  ⟨(some 5), none, .mov, [.cn (.int .i64 7)]⟩])
 .ret)
  .skip))
 (.seq (.region [⟨(some 15), none, .mov, [.tm 0]⟩,
  ⟨(some 16), none, .mov, [.tm 1]⟩,
  ⟨(some 17), none, (.build [(.int .i64 0), (.int .i64 0)] [(0, 1), (1, 1)]), [.tm 15, .tm 16]⟩,
  ⟨none, none, (.store 2), [.tm 4, .tm 17]⟩,
  ⟨(some 5), none, .mov, [.cn (.int .i64 0)]⟩])
 .ret))) }
theorem v61_is : vfunc Try.prog Try.f61 = some v61 := by kernel_rfl


def numC : Ctr := { alias := false, of := fun l => match l with | [.int .i64 n] => .fin (.bool (numOk n)) [] | _ => noC }
def ivlC : Ctr := { alias := false, of := fun a => match a with
  | [.vs _ _ n sz get] => .ex (List Iv) fun l => .pre (lsP 2 enc2 n sz get l ∧ l.length ≤ 1000000) (.fin (.int .i64 (ivE l)) [])
  | _ => noC }
def sizC : Ctr := { alias := false, of := fun l => match l with
  | [.int .i64 n] => .pre (-9223372036854775808 ≤ n ∧ n ≤ 9223372036854775807) (.fin (.int .u64 (n.natAbs : Int)) [])
  | _ => noC }
def timC : Ctr := { alias := false, of := fun l => match l with
  | [.int .i64 a, .int .i64 b] => .pre ((-9223372036854775808 ≤ a ∧ a ≤ 9223372036854775807) ∧ -9223372036854775808 ≤ b ∧ b ≤ 9223372036854775807) (.fin (.agg (longE (a * b))) [])
  | _ => noC }
def lessC : Ctr := { alias := false, of := fun l => match l with
  | [.agg [.bool n, .int .u64 h, .int .u64 lo], .agg [.bool n', .int .u64 h', .int .u64 lo']] => .ex Int fun x => .ex Int fun y => .pre (longP x n h lo ∧ longP y n' h' lo') (.fin (.bool (decide (x < y))) [])
  | _ => noC }
def overC : Ctr := { alias := false, of := fun l => match l with
  | [.agg [.bool n, .int .u64 h, .int .u64 lo], .int .u64 d, .bool up] => .ex Int fun x => .pre (longP x n h lo ∧ big x ∧ 0 < d ∧ d ≤ 18446744073709551615) (.fin (.tup [.int .i64 (rndF up x d).1, .bool (rndF up x d).2]) [])
  | _ => noC }
def spanC : Ctr := { alias := false, of := fun l => match l with
  | [.int .u64 d, .vs _ _ n sz get] => .ex Int fun x => .ex (List Int) fun r => .pre (lsP 3 longE n sz get (x :: r) ∧ r.length ≤ 1000 ∧ (∀ y ∈ x :: r, big y) ∧ 0 < d ∧ d ≤ 18446744073709551615) (.fin (.tup [.agg (enc2 (spanI d x r).1), .int .i64 (spanI d x r).2]) [])
  | _ => noC }
def fitC : Ctr := { alias := false, of := fun l => match l with
  | [.int .i64 a, .int .i64 b] => .fin (.tup [.agg (enc2 (fitF a b).1), .int .i64 (fitF a b).2]) []
  | _ => noC }

def P0 : Env := { ct := fun _ => none, fn := fun _ => none, meth := fun _ _ => none }
theorem P0_ok : EnvOk Try.prog P0 := by
  refine ⟨fun f c h => ?_, fun f vf h => ?_, fun _ _ => rfl, by kernel_rfl⟩
  · cases h
  · cases h

theorem num_ok : numC.ok Try.prog 43 := by
  refine contract Try.func43 v43_is P0_ok 100 numC fun args k h => ⟨args, ?_⟩
  simp only [numC] at h
  split at h
  · refine ⟨by simp [leL, le], ?_⟩
    dsimp only [v43, r_end, r_end1, r_nil, r_op, r_opg, r_runOp, r_op0, r_yld0, r_yld1, r_y, r_rbeg, r_rend, r_rend1, r_rfrm, r_rfrm1, r_range, r_rangeK, r_rangeE, r_draw, r_dnil, r_dop, r_dopg, r_dplq, r_dplh, r_dq, r_dq0, r_dcl1, r_dcl0, r_dct1, r_dct0, r_dgd, r_dgq1, r_dgq0, r_dctG, r_op1, r_eff, r_eff0, r_call, r_call0, r_inl, r_g, r_gq, r_gc, r_effg, r_effg0, r_callg, r_callg0, r_fin, r_pre, r_imp, r_all, r_ex, r_fing, r_preg, r_exg, r_inBlock, r_inLoop, r_frame, r_frame1, r_skip, r_stuck, r_region, r_seq, r_cond, r_cond1, r_block, r_exit, r_exit1, r_exit2, r_ret, r_loop, s_args0, s_args1, s_xt, s_xc, padL, blankL, callee, callArgs, eff, ctOf, getL, setL, S.put, S.upd, unopts, unopt, unoptsO, unoptsB, lazyO, guardOf, gbool, eMov, eNot, eNeg, eConv, eExt, eLenArr, eLen, eLenStr, eEqb, eEqv, allEq, eNil, negIf, eBool2, eCmp, eAri, ari, eBit, eDiv, eSh, eMinMax, foldMin, foldMax, kEq, pure1, cmpB, VO.quiet, resVals, resVal, tupled, popRet, popTo, cond, Option.bind, Option.map, eNew, eBox, asCells, lenH, snocH, eFieldAddr, eField, eLoad, cellsAt, getH, setH, dropL, takeL, mkAgg, lenL, lenS, shift, shiftL, shiftH, viewN, viewL, view, andT, junks, List.append_nil, Nat.beq, eIdxAddr, eIdxArr, idxN_0, idxN_1, idxN_2, idxN_3, eIndex, eStore, storeAt, spliceL, ones, one, eSlice, eSliceArr, bounds, subLo_z, addLo_z, subLo_one, addLo_one, eMake, eAppend, readS, repL, buildCells, chunk, purgeL, purgeLL, purgeH, purge, refs, refsL, List.cons_append, List.nil_append, wrOps, wrAl, wrDops, wrC, junkAt, putAll, putHs, headOf, headK, keepG, List.append_eq, headX, chkP, apartP, apartB, blk, strip, runAl, AL.ho, yld, putPs, lenN, findR, notRound, jumpK, jumpPT, jcode, List.map_cons, List.map_nil, ite_self, reduceIte]
    simp only [true_and, and_true, imp_self, implies_true, decide_eq_true_eq, decide_eq_false_iff_not, Nat.reduceAdd, Nat.reduceLeDiff, Bool.not_not, reduceCtorEq, false_imp_iff, Bool.not_eq_true', Bool.not_eq_false', Bool.false_eq_true, and_self, forall_const, ne_eq, not_false_eq_true, Nat.reduceEqDiff]
    exact ans_bool h
  · exact h.1.elim
theorem siz_ok : sizC.ok Try.prog 51 := by
  refine contract Try.func51 v51_is P0_ok 100 sizC fun args k h => ⟨args, ?_⟩
  simp only [sizC] at h
  split at h
  · rename_i n
    obtain ⟨⟨h0, h1⟩, h⟩ := h
    refine ⟨by simp [leL, le], ?_⟩
    dsimp only [v51, r_end, r_end1, r_nil, r_op, r_opg, r_runOp, r_op0, r_yld0, r_yld1, r_y, r_rbeg, r_rend, r_rend1, r_rfrm, r_rfrm1, r_range, r_rangeK, r_rangeE, r_draw, r_dnil, r_dop, r_dopg, r_dplq, r_dplh, r_dq, r_dq0, r_dcl1, r_dcl0, r_dct1, r_dct0, r_dgd, r_dgq1, r_dgq0, r_dctG, r_op1, r_eff, r_eff0, r_call, r_call0, r_inl, r_g, r_gq, r_gc, r_effg, r_effg0, r_callg, r_callg0, r_fin, r_pre, r_imp, r_all, r_ex, r_fing, r_preg, r_exg, r_inBlock, r_inLoop, r_frame, r_frame1, r_skip, r_stuck, r_region, r_seq, r_cond, r_cond1, r_block, r_exit, r_exit1, r_exit2, r_ret, r_loop, s_args0, s_args1, s_xt, s_xc, padL, blankL, callee, callArgs, eff, ctOf, getL, setL, S.put, S.upd, unopts, unopt, unoptsO, unoptsB, lazyO, guardOf, gbool, eMov, eNot, eNeg, eConv, eExt, eLenArr, eLen, eLenStr, eEqb, eEqv, allEq, eNil, negIf, eBool2, eCmp, eAri, ari, eBit, eDiv, eSh, eMinMax, foldMin, foldMax, kEq, pure1, cmpB, VO.quiet, resVals, resVal, tupled, popRet, popTo, cond, Option.bind, Option.map, eNew, eBox, asCells, lenH, snocH, eFieldAddr, eField, eLoad, cellsAt, getH, setH, dropL, takeL, mkAgg, lenL, lenS, shift, shiftL, shiftH, viewN, viewL, view, andT, junks, List.append_nil, Nat.beq, eIdxAddr, eIdxArr, idxN_0, idxN_1, idxN_2, idxN_3, eIndex, eStore, storeAt, spliceL, ones, one, eSlice, eSliceArr, bounds, subLo_z, addLo_z, subLo_one, addLo_one, eMake, eAppend, readS, repL, buildCells, chunk, purgeL, purgeLL, purgeH, purge, refs, refsL, List.cons_append, List.nil_append, wrOps, wrAl, wrDops, wrC, junkAt, putAll, putHs, headOf, headK, keepG, List.append_eq, headX, chkP, apartP, apartB, blk, strip, runAl, AL.ho, yld, putPs, lenN, findR, notRound, jumpK, jumpPT, jcode, List.map_cons, List.map_nil, ite_self, reduceIte]
    simp only [true_and, and_true, imp_self, implies_true, decide_eq_true_eq, decide_eq_false_iff_not, Nat.reduceAdd, Nat.reduceLeDiff, Bool.not_not, reduceCtorEq, false_imp_iff, Bool.not_eq_true', Bool.not_eq_false', Bool.false_eq_true, and_self, forall_const, ne_eq, not_false_eq_true, Nat.reduceEqDiff]
    have e : IntKind.u64.wrap (max n (IntKind.i64.wrap (0 - n))) = (n.natAbs : Int) := by
      rcases Int.lt_or_le n (-9223372036854775807) with h' | h'
      · obtain rfl : n = -9223372036854775808 := by omega
        decide
      · rw [IntWalk.i64_in _ (by omega), IntWalk.u64_in _ (by omega)]; omega
    rw [e]
    exact ans_int h
  · exact h.1.elim

def P1 : Env := { ct := fun n => match n with | 43 => some numC | 51 => some sizC | 67 => some mul64C | 83 => some div64C | _ => none, fn := fun _ => none, meth := fun _ _ => none }
theorem P1_ct43 : P1.ct 43 = some numC := rfl
theorem P1_ct51 : P1.ct 51 = some sizC := rfl
theorem P1_ct67 : P1.ct 67 = some mul64C := rfl
theorem P1_ct83 : P1.ct 83 = some div64C := rfl
theorem P1_ok : EnvOk Try.prog P1 := by
  refine ⟨fun f c h => ?_, fun f vf h => ?_, fun _ _ => rfl, by kernel_rfl⟩
  · simp only [P1] at h
    split at h
    · cases h; exact ⟨num_ok, Try.f43, Try.func43, by kernel_rfl, by kernel_rfl⟩
    · cases h; exact ⟨siz_ok, Try.f51, Try.func51, by kernel_rfl, by kernel_rfl⟩
    · cases h; exact ⟨mul64_ok, Try.f67, Try.func67, by kernel_rfl, by kernel_rfl⟩
    · cases h; exact ⟨div64_ok, Try.f83, Try.func83, by kernel_rfl, by kernel_rfl⟩
    · cases h
  · cases h


theorem ivl_ok : ivlC.ok Try.prog 42 := by
  refine contract Try.func42 v42_is P1_ok 400 ivlC fun args k h => ?_
  simp only [ivlC] at h
  split at h
  · rename_i tt z n sz get
    obtain ⟨l, ⟨⟨rfl, rfl, hg⟩, hmax⟩, h⟩ := h
    refine ⟨[.vs tt z l.length 2 (fun k => enc2 (l.getD k default))], by simpa [leL, le] using hg, ?_⟩
    dsimp only [v42, enc2, r_end, r_end1, r_nil, r_op, r_opg, r_runOp, r_op0, r_yld0, r_yld1, r_y, r_rbeg, r_rend, r_rend1, r_rfrm, r_rfrm1, r_range, r_rangeK, r_rangeE, r_draw, r_dnil, r_dop, r_dopg, r_dplq, r_dplh, r_dq, r_dq0, r_dcl1, r_dcl0, r_dct1, r_dct0, r_dgd, r_dgq1, r_dgq0, r_dctG, r_op1, r_eff, r_eff0, r_call, r_call0, r_inl, r_g, r_gq, r_gc, r_effg, r_effg0, r_callg, r_callg0, r_fin, r_pre, r_imp, r_all, r_ex, r_fing, r_preg, r_exg, r_inBlock, r_inLoop, r_frame, r_frame1, r_skip, r_stuck, r_region, r_seq, r_cond, r_cond1, r_block, r_exit, r_exit1, r_exit2, r_ret, r_loop, s_args0, s_args1, s_xt, s_xc, padL, blankL, callee, callArgs, eff, ctOf, getL, setL, S.put, S.upd, unopts, unopt, unoptsO, unoptsB, lazyO, guardOf, gbool, eMov, eNot, eNeg, eConv, eExt, eLenArr, eLen, eLenStr, eEqb, eEqv, allEq, eNil, negIf, eBool2, eCmp, eAri, ari, eBit, eDiv, eSh, eMinMax, foldMin, foldMax, kEq, pure1, cmpB, VO.quiet, resVals, resVal, tupled, popRet, popTo, cond, Option.bind, Option.map, eNew, eBox, asCells, lenH, snocH, eFieldAddr, eField, eLoad, cellsAt, getH, setH, dropL, takeL, mkAgg, lenL, lenS, shift, shiftL, shiftH, viewN, viewL, view, andT, junks, List.append_nil, Nat.beq, eIdxAddr, eIdxArr, idxN_0, idxN_1, idxN_2, idxN_3, eIndex, eStore, storeAt, spliceL, ones, one, eSlice, eSliceArr, bounds, subLo_z, addLo_z, subLo_one, addLo_one, eMake, eAppend, readS, repL, buildCells, chunk, purgeL, purgeLL, purgeH, purge, refs, refsL, List.cons_append, List.nil_append, wrOps, wrAl, wrDops, wrC, junkAt, putAll, putHs, headOf, headK, keepG, List.append_eq, headX, chkP, apartP, apartB, blk, strip, runAl, AL.ho, yld, putPs, lenN, findR, notRound, jumpK, jumpPT, jcode, List.map_cons, List.map_nil, ite_self, reduceIte]
    simp only [true_and, and_true, imp_self, implies_true, decide_eq_true_eq, decide_eq_false_iff_not, Nat.reduceAdd, Nat.reduceLeDiff, Bool.not_not, reduceCtorEq, false_imp_iff, Bool.not_eq_true', Bool.not_eq_false', Bool.false_eq_true, and_self, forall_const, ne_eq, not_false_eq_true, Nat.reduceEqDiff]
    refine Loop.keep [0, 6, 0, 0] Nat (fun i => [(9, .int .i64 i)]) (fun _ => []) [] (fun i => i ≤ l.length ∧ ∀ j, j < i → (numOk (l.getD j default).1 && numOk (l.getD j default).2) = true) (fun i => l.length - i) ?_ ?_
    · refine ⟨0, ⟨Nat.zero_le _, fun j h => by omega⟩, ?_⟩
      dsimp only [r_end, r_end1, r_nil, r_op, r_opg, r_runOp, r_op0, r_yld0, r_yld1, r_y, r_rbeg, r_rend, r_rend1, r_rfrm, r_rfrm1, r_range, r_rangeK, r_rangeE, r_draw, r_dnil, r_dop, r_dopg, r_dplq, r_dplh, r_dq, r_dq0, r_dcl1, r_dcl0, r_dct1, r_dct0, r_dgd, r_dgq1, r_dgq0, r_dctG, r_op1, r_eff, r_eff0, r_call, r_call0, r_inl, r_g, r_gq, r_gc, r_effg, r_effg0, r_callg, r_callg0, r_fin, r_pre, r_imp, r_all, r_ex, r_fing, r_preg, r_exg, r_inBlock, r_inLoop, r_frame, r_frame1, r_skip, r_stuck, r_region, r_seq, r_cond, r_cond1, r_block, r_exit, r_exit1, r_exit2, r_ret, r_loop, s_args0, s_args1, s_xt, s_xc, padL, blankL, callee, callArgs, eff, ctOf, getL, setL, S.put, S.upd, unopts, unopt, unoptsO, unoptsB, lazyO, guardOf, gbool, eMov, eNot, eNeg, eConv, eExt, eLenArr, eLen, eLenStr, eEqb, eEqv, allEq, eNil, negIf, eBool2, eCmp, eAri, ari, eBit, eDiv, eSh, eMinMax, foldMin, foldMax, kEq, pure1, cmpB, VO.quiet, resVals, resVal, tupled, popRet, popTo, cond, Option.bind, Option.map, eNew, eBox, asCells, lenH, snocH, eFieldAddr, eField, eLoad, cellsAt, getH, setH, dropL, takeL, mkAgg, lenL, lenS, shift, shiftL, shiftH, viewN, viewL, view, andT, junks, List.append_nil, Nat.beq, eIdxAddr, eIdxArr, idxN_0, idxN_1, idxN_2, idxN_3, eIndex, eStore, storeAt, spliceL, ones, one, eSlice, eSliceArr, bounds, subLo_z, addLo_z, subLo_one, addLo_one, eMake, eAppend, readS, repL, buildCells, chunk, purgeL, purgeLL, purgeH, purge, refs, refsL, List.cons_append, List.nil_append, wrOps, wrAl, wrDops, wrC, junkAt, putAll, putHs, headOf, headK, keepG, List.append_eq, headX, chkP, apartP, apartB, blk, strip, runAl, AL.ho, yld, putPs, lenN, findR, notRound, jumpK, jumpPT, jcode, List.map_cons, List.map_nil, ite_self, reduceIte]
      simp only [leS_mk, leL_cons, leL_nil, le_junk, le_int, le_bool, le_nil, leLL_nil, leLL_cons, leH_cons, leH_nil, leH1_box, leH1_own, leH1_gone, le_vs, le_agg, le_tup, le_ptr, le_own, le_xp, le_fn, le_opt, le_val, le_elem, le_nil_own, le_nil_vs, leH_ghost, leL_chunk, leXL_id, bnd_int, bnd_bool, bnd_val, bnd_nil, bnd_junk, bnd_vs, bnd_xp, bnd_agg, bnd_tup, bnd_ptr, bnd_own, bnd_elem, bnd_fn, bnd_iface, bnd_opt, bndL_nil, bndL_cons, lenH_cons, lenH_nil, imp_self, implies_true, true_and, and_true]
      simp
    · rintro i ⟨hi, ha⟩
      dsimp only [P1_ct43, numC, enc2, Int.toNat_natCast, r_end, r_end1, r_nil, r_op, r_opg, r_runOp, r_op0, r_yld0, r_yld1, r_y, r_rbeg, r_rend, r_rend1, r_rfrm, r_rfrm1, r_range, r_rangeK, r_rangeE, r_draw, r_dnil, r_dop, r_dopg, r_dplq, r_dplh, r_dq, r_dq0, r_dcl1, r_dcl0, r_dct1, r_dct0, r_dgd, r_dgq1, r_dgq0, r_dctG, r_op1, r_eff, r_eff0, r_call, r_call0, r_inl, r_g, r_gq, r_gc, r_effg, r_effg0, r_callg, r_callg0, r_fin, r_pre, r_imp, r_all, r_ex, r_fing, r_preg, r_exg, r_inBlock, r_inLoop, r_frame, r_frame1, r_skip, r_stuck, r_region, r_seq, r_cond, r_cond1, r_block, r_exit, r_exit1, r_exit2, r_ret, r_loop, s_args0, s_args1, s_xt, s_xc, padL, blankL, callee, callArgs, eff, ctOf, getL, setL, S.put, S.upd, unopts, unopt, unoptsO, unoptsB, lazyO, guardOf, gbool, eMov, eNot, eNeg, eConv, eExt, eLenArr, eLen, eLenStr, eEqb, eEqv, allEq, eNil, negIf, eBool2, eCmp, eAri, ari, eBit, eDiv, eSh, eMinMax, foldMin, foldMax, kEq, pure1, cmpB, VO.quiet, resVals, resVal, tupled, popRet, popTo, cond, Option.bind, Option.map, eNew, eBox, asCells, lenH, snocH, eFieldAddr, eField, eLoad, cellsAt, getH, setH, dropL, takeL, mkAgg, lenL, lenS, shift, shiftL, shiftH, viewN, viewL, view, andT, junks, List.append_nil, Nat.beq, eIdxAddr, eIdxArr, idxN_0, idxN_1, idxN_2, idxN_3, eIndex, eStore, storeAt, spliceL, ones, one, eSlice, eSliceArr, bounds, subLo_z, addLo_z, subLo_one, addLo_one, eMake, eAppend, readS, repL, buildCells, chunk, purgeL, purgeLL, purgeH, purge, refs, refsL, List.cons_append, List.nil_append, wrOps, wrAl, wrDops, wrC, junkAt, putAll, putHs, headOf, headK, keepG, List.append_eq, headX, chkP, apartP, apartB, blk, strip, runAl, AL.ho, yld, putPs, lenN, findR, notRound, jumpK, jumpPT, jcode, List.map_cons, List.map_nil, ite_self, reduceIte]
      simp only [true_and, and_true, imp_self, implies_true, decide_eq_true_eq, decide_eq_false_iff_not, Nat.reduceAdd, Nat.reduceLeDiff, Bool.not_not, reduceCtorEq, false_imp_iff, Bool.not_eq_true', Bool.not_eq_false', Bool.false_eq_true, and_self, forall_const, ne_eq, not_false_eq_true, Nat.reduceEqDiff]
      refine ⟨fun hlt => ⟨⟨by omega, hlt⟩, fun hb => ans_int ?_, fun hb => ?_⟩, fun hge => ?_⟩
      · have e := ivE_bad (l := l) (i := i) (by omega) (by rw [← Bool.not_and, Bool.not_eq_true'] at hb; exact hb)
        rw [e] at h; exact h
      · rw [← Bool.not_and] at hb
        refine ⟨i + 1, ⟨by omega, fun j hj => ?_⟩, by omega, ?_⟩
        · rcases Nat.lt_or_ge j i with h' | h'
          · exact ha j h'
          · obtain rfl : j = i := by omega
            simpa using hb
        · have hw := w_succ (i := i) (n := l.length) (by omega) (by omega)
          simp only [hw, leS_mk, leL_cons, leL_nil, le_junk, le_int, le_bool, le_nil, leLL_nil, leLL_cons, leH_cons, leH_nil, leH1_box, leH1_own, leH1_gone, le_vs, le_agg, le_tup, le_ptr, le_own, le_xp, le_fn, le_opt, le_val, le_elem, le_nil_own, le_nil_vs, leH_ghost, leL_chunk, leXL_id, bnd_int, bnd_bool, bnd_val, bnd_nil, bnd_junk, bnd_vs, bnd_xp, bnd_agg, bnd_tup, bnd_ptr, bnd_own, bnd_elem, bnd_fn, bnd_iface, bnd_opt, bndL_nil, bndL_cons, lenH_cons, lenH_nil, imp_self, implies_true, true_and, and_true] <;> simp
      · obtain rfl : i = l.length := by omega
        refine Loop.keep [0, 23, 0, 0] Nat (fun i => [(26, .int .i64 i)]) (fun _ => []) [] (fun i => i ≤ l.length ∧ ∀ j, j < i → (l.getD j default).1 ≤ (l.getD j default).2) (fun i => l.length - i) ?_ ?_
        · refine ⟨0, ⟨Nat.zero_le _, fun j h => by omega⟩, ?_⟩
          dsimp only [r_end, r_end1, r_nil, r_op, r_opg, r_runOp, r_op0, r_yld0, r_yld1, r_y, r_rbeg, r_rend, r_rend1, r_rfrm, r_rfrm1, r_range, r_rangeK, r_rangeE, r_draw, r_dnil, r_dop, r_dopg, r_dplq, r_dplh, r_dq, r_dq0, r_dcl1, r_dcl0, r_dct1, r_dct0, r_dgd, r_dgq1, r_dgq0, r_dctG, r_op1, r_eff, r_eff0, r_call, r_call0, r_inl, r_g, r_gq, r_gc, r_effg, r_effg0, r_callg, r_callg0, r_fin, r_pre, r_imp, r_all, r_ex, r_fing, r_preg, r_exg, r_inBlock, r_inLoop, r_frame, r_frame1, r_skip, r_stuck, r_region, r_seq, r_cond, r_cond1, r_block, r_exit, r_exit1, r_exit2, r_ret, r_loop, s_args0, s_args1, s_xt, s_xc, padL, blankL, callee, callArgs, eff, ctOf, getL, setL, S.put, S.upd, unopts, unopt, unoptsO, unoptsB, lazyO, guardOf, gbool, eMov, eNot, eNeg, eConv, eExt, eLenArr, eLen, eLenStr, eEqb, eEqv, allEq, eNil, negIf, eBool2, eCmp, eAri, ari, eBit, eDiv, eSh, eMinMax, foldMin, foldMax, kEq, pure1, cmpB, VO.quiet, resVals, resVal, tupled, popRet, popTo, cond, Option.bind, Option.map, eNew, eBox, asCells, lenH, snocH, eFieldAddr, eField, eLoad, cellsAt, getH, setH, dropL, takeL, mkAgg, lenL, lenS, shift, shiftL, shiftH, viewN, viewL, view, andT, junks, List.append_nil, Nat.beq, eIdxAddr, eIdxArr, idxN_0, idxN_1, idxN_2, idxN_3, eIndex, eStore, storeAt, spliceL, ones, one, eSlice, eSliceArr, bounds, subLo_z, addLo_z, subLo_one, addLo_one, eMake, eAppend, readS, repL, buildCells, chunk, purgeL, purgeLL, purgeH, purge, refs, refsL, List.cons_append, List.nil_append, wrOps, wrAl, wrDops, wrC, junkAt, putAll, putHs, headOf, headK, keepG, List.append_eq, headX, chkP, apartP, apartB, blk, strip, runAl, AL.ho, yld, putPs, lenN, findR, notRound, jumpK, jumpPT, jcode, List.map_cons, List.map_nil, ite_self, reduceIte]
          simp only [leS_mk, leL_cons, leL_nil, le_junk, le_int, le_bool, le_nil, leLL_nil, leLL_cons, leH_cons, leH_nil, leH1_box, leH1_own, leH1_gone, le_vs, le_agg, le_tup, le_ptr, le_own, le_xp, le_fn, le_opt, le_val, le_elem, le_nil_own, le_nil_vs, leH_ghost, leL_chunk, leXL_id, bnd_int, bnd_bool, bnd_val, bnd_nil, bnd_junk, bnd_vs, bnd_xp, bnd_agg, bnd_tup, bnd_ptr, bnd_own, bnd_elem, bnd_fn, bnd_iface, bnd_opt, bndL_nil, bndL_cons, lenH_cons, lenH_nil, imp_self, implies_true, true_and, and_true]
          simp
        · rintro i ⟨hi, hc⟩
          dsimp only [enc2, Int.toNat_natCast, r_end, r_end1, r_nil, r_op, r_opg, r_runOp, r_op0, r_yld0, r_yld1, r_y, r_rbeg, r_rend, r_rend1, r_rfrm, r_rfrm1, r_range, r_rangeK, r_rangeE, r_draw, r_dnil, r_dop, r_dopg, r_dplq, r_dplh, r_dq, r_dq0, r_dcl1, r_dcl0, r_dct1, r_dct0, r_dgd, r_dgq1, r_dgq0, r_dctG, r_op1, r_eff, r_eff0, r_call, r_call0, r_inl, r_g, r_gq, r_gc, r_effg, r_effg0, r_callg, r_callg0, r_fin, r_pre, r_imp, r_all, r_ex, r_fing, r_preg, r_exg, r_inBlock, r_inLoop, r_frame, r_frame1, r_skip, r_stuck, r_region, r_seq, r_cond, r_cond1, r_block, r_exit, r_exit1, r_exit2, r_ret, r_loop, s_args0, s_args1, s_xt, s_xc, padL, blankL, callee, callArgs, eff, ctOf, getL, setL, S.put, S.upd, unopts, unopt, unoptsO, unoptsB, lazyO, guardOf, gbool, eMov, eNot, eNeg, eConv, eExt, eLenArr, eLen, eLenStr, eEqb, eEqv, allEq, eNil, negIf, eBool2, eCmp, eAri, ari, eBit, eDiv, eSh, eMinMax, foldMin, foldMax, kEq, pure1, cmpB, VO.quiet, resVals, resVal, tupled, popRet, popTo, cond, Option.bind, Option.map, eNew, eBox, asCells, lenH, snocH, eFieldAddr, eField, eLoad, cellsAt, getH, setH, dropL, takeL, mkAgg, lenL, lenS, shift, shiftL, shiftH, viewN, viewL, view, andT, junks, List.append_nil, Nat.beq, eIdxAddr, eIdxArr, idxN_0, idxN_1, idxN_2, idxN_3, eIndex, eStore, storeAt, spliceL, ones, one, eSlice, eSliceArr, bounds, subLo_z, addLo_z, subLo_one, addLo_one, eMake, eAppend, readS, repL, buildCells, chunk, purgeL, purgeLL, purgeH, purge, refs, refsL, List.cons_append, List.nil_append, wrOps, wrAl, wrDops, wrC, junkAt, putAll, putHs, headOf, headK, keepG, List.append_eq, headX, chkP, apartP, apartB, blk, strip, runAl, AL.ho, yld, putPs, lenN, findR, notRound, jumpK, jumpPT, jcode, List.map_cons, List.map_nil, ite_self, reduceIte]
          simp only [true_and, and_true, imp_self, implies_true, decide_eq_true_eq, decide_eq_false_iff_not, Nat.reduceAdd, Nat.reduceLeDiff, Bool.not_not, reduceCtorEq, false_imp_iff, Bool.not_eq_true', Bool.not_eq_false', Bool.false_eq_true, and_self, forall_const, ne_eq, not_false_eq_true, Nat.reduceEqDiff]
          refine ⟨fun hlt => ⟨⟨by omega, hlt⟩, fun hb => ans_int ?_, fun hb => ?_⟩, fun hge => ?_⟩
          · have e := ivE_2 ha (i := i) (by omega) (by omega)
            rw [e] at h; exact h
          · refine ⟨i + 1, ⟨by omega, fun j hj => ?_⟩, by omega, ?_⟩
            · rcases Nat.lt_or_ge j i with h' | h'
              · exact hc j h'
              · obtain rfl : j = i := by omega
                omega
            · have hw := w_succ (i := i) (n := l.length) (by omega) (by omega)
              simp only [hw, leS_mk, leL_cons, leL_nil, le_junk, le_int, le_bool, le_nil, leLL_nil, leLL_cons, leH_cons, leH_nil, leH1_box, leH1_own, leH1_gone, le_vs, le_agg, le_tup, le_ptr, le_own, le_xp, le_fn, le_opt, le_val, le_elem, le_nil_own, le_nil_vs, leH_ghost, leL_chunk, leXL_id, bnd_int, bnd_bool, bnd_val, bnd_nil, bnd_junk, bnd_vs, bnd_xp, bnd_agg, bnd_tup, bnd_ptr, bnd_own, bnd_elem, bnd_fn, bnd_iface, bnd_opt, bndL_nil, bndL_cons, lenH_cons, lenH_nil, imp_self, implies_true, true_and, and_true] <;> simp
          · obtain rfl : i = l.length := by omega
            rw [ivE_0 ha hc] at h
            exact ans_int h
  · exact h.1.elim

theorem tim_ok : timC.ok Try.prog 45 := by
  refine contract Try.func45 v45_is P1_ok 200 timC fun args k h => ⟨args, ?_⟩
  simp only [timC] at h
  split at h
  · rename_i a b
    obtain ⟨⟨ha, hb⟩, h⟩ := h
    refine ⟨by simp [leL, le], ?_⟩
    dsimp only [v45, P1_ct51, P1_ct67, sizC, mul64C, bitI, r_end, r_end1, r_nil, r_op, r_opg, r_runOp, r_op0, r_yld0, r_yld1, r_y, r_rbeg, r_rend, r_rend1, r_rfrm, r_rfrm1, r_range, r_rangeK, r_rangeE, r_draw, r_dnil, r_dop, r_dopg, r_dplq, r_dplh, r_dq, r_dq0, r_dcl1, r_dcl0, r_dct1, r_dct0, r_dgd, r_dgq1, r_dgq0, r_dctG, r_op1, r_eff, r_eff0, r_call, r_call0, r_inl, r_g, r_gq, r_gc, r_effg, r_effg0, r_callg, r_callg0, r_fin, r_pre, r_imp, r_all, r_ex, r_fing, r_preg, r_exg, r_inBlock, r_inLoop, r_frame, r_frame1, r_skip, r_stuck, r_region, r_seq, r_cond, r_cond1, r_block, r_exit, r_exit1, r_exit2, r_ret, r_loop, s_args0, s_args1, s_xt, s_xc, padL, blankL, callee, callArgs, eff, ctOf, getL, setL, S.put, S.upd, unopts, unopt, unoptsO, unoptsB, lazyO, guardOf, gbool, eMov, eNot, eNeg, eConv, eExt, eLenArr, eLen, eLenStr, eEqb, eEqv, allEq, eNil, negIf, eBool2, eCmp, eAri, ari, eBit, eDiv, eSh, eMinMax, foldMin, foldMax, kEq, pure1, cmpB, VO.quiet, resVals, resVal, tupled, popRet, popTo, cond, Option.bind, Option.map, eNew, eBox, asCells, lenH, snocH, eFieldAddr, eField, eLoad, cellsAt, getH, setH, dropL, takeL, mkAgg, lenL, lenS, shift, shiftL, shiftH, viewN, viewL, view, andT, junks, List.append_nil, Nat.beq, eIdxAddr, eIdxArr, idxN_0, idxN_1, idxN_2, idxN_3, eIndex, eStore, storeAt, spliceL, ones, one, eSlice, eSliceArr, bounds, subLo_z, addLo_z, subLo_one, addLo_one, eMake, eAppend, readS, repL, buildCells, chunk, purgeL, purgeLL, purgeH, purge, refs, refsL, List.cons_append, List.nil_append, wrOps, wrAl, wrDops, wrC, junkAt, putAll, putHs, headOf, headK, keepG, List.append_eq, headX, chkP, apartP, apartB, blk, strip, runAl, AL.ho, yld, putPs, lenN, findR, notRound, jumpK, jumpPT, jcode, List.map_cons, List.map_nil, ite_self, reduceIte]
    simp only [true_and, and_true, imp_self, implies_true, decide_eq_true_eq, decide_eq_false_iff_not, Nat.reduceAdd, Nat.reduceLeDiff, Bool.not_not, reduceCtorEq, false_imp_iff, Bool.not_eq_true', Bool.not_eq_false', Bool.false_eq_true, and_self, forall_const, ne_eq, not_false_eq_true, Nat.reduceEqDiff]
    rw [show IntKind.u64.bits = 64 from rfl]
    obtain ⟨P, hP⟩ : ∃ P, P = a.natAbs * b.natAbs := ⟨_, rfl⟩
    have hPb : P ≤ 9223372036854775808 * 9223372036854775808 := by rw [hP]; exact Nat.mul_le_mul (by omega) (by omega)
    have e0 : (a.natAbs : Int) * (b.natAbs : Int) = (P : Int) := by rw [hP]; exact (Int.natCast_mul _ _).symm
    have e1 : (P : Int) / 18446744073709551616 = ((P / 18446744073709551616 : Nat) : Int) := by omega
    have e2 : (P : Int) % 18446744073709551616 = ((P % 18446744073709551616 : Nat) : Int) := by omega
    rw [e0, e1, e2, or_nat6 (by omega) (by omega)]
    refine ⟨ha, hb, ⟨⟨by omega, by omega⟩, by omega, by omega⟩, by decide, by decide, ?_⟩
    have e3 : (a * b).natAbs = P := by rw [hP, Int.natAbs_mul]
    have e4 : (!(decide (a < 0) == decide (b < 0)) && !decide (((P / 18446744073709551616 ||| P % 18446744073709551616 : Nat) : Int) = 0)) = decide (a * b < 0) := by
      have z : decide (((P / 18446744073709551616 ||| P % 18446744073709551616 : Nat) : Int) = 0) = decide (P = 0) := by
        congr 1
        apply propext
        have := @Nat.or_eq_zero_iff (P / 18446744073709551616) (P % 18446744073709551616)
        omega
      rw [z]
      have hz : P = 0 ↔ a = 0 ∨ b = 0 := by rw [hP, Nat.mul_eq_zero]; omega
      rcases Int.lt_trichotomy a 0 with h1 | h1 | h1 <;> rcases Int.lt_trichotomy b 0 with h2 | h2 | h2
      · have := Int.mul_pos_of_neg_of_neg h1 h2
        simp [h1, h2]; omega
      · subst h2; simp [hz]
      · have := Int.mul_neg_of_neg_of_pos h1 h2
        have hb' : ¬ b < 0 := by omega
        simp [h1, hb', this, hz]; omega
      · subst h1; simp [hz]
      · subst h1; simp [hz]
      · subst h1; simp [hz]
      · have := Int.mul_neg_of_pos_of_neg h1 h2
        have ha' : ¬ a < 0 := by omega
        simp [h2, ha', this, hz]; omega
      · subst h2; simp [hz]
      · have := Int.mul_pos h1 h2
        have ha' : ¬ a < 0 := by omega
        have hb' : ¬ b < 0 := by omega
        simp [ha', hb']; omega
    rw [e4]
    have h : k (.agg (longE (a * b))) [] := h
    rw [longE, e3] at h
    exact ans_le (show k _ [] from h) (le_self (.agg [.bool (decide (a * b < 0)), .int .u64 ((P / 18446744073709551616 : Nat) : Int), .int .u64 ((P % 18446744073709551616 : Nat) : Int)]) ⟨trivial, trivial, trivial, trivial⟩) (fun _ => by simp [freshS, freshL])
  · exact h.1.elim
theorem less_ok : lessC.ok Try.prog 66 := by
  refine contract Try.func66 v66_is P1_ok 200 lessC fun args k h => ⟨args, ?_⟩
  simp only [lessC] at h
  split at h
  · rename_i n hi lo n' hi' lo'
    obtain ⟨x, y, ⟨⟨rfl, rfl, rfl⟩, rfl, rfl, rfl⟩, h⟩ := h
    refine ⟨by simp [leL, le], ?_⟩
    dsimp only [v66, r_end, r_end1, r_nil, r_op, r_opg, r_runOp, r_op0, r_yld0, r_yld1, r_y, r_rbeg, r_rend, r_rend1, r_rfrm, r_rfrm1, r_range, r_rangeK, r_rangeE, r_draw, r_dnil, r_dop, r_dopg, r_dplq, r_dplh, r_dq, r_dq0, r_dcl1, r_dcl0, r_dct1, r_dct0, r_dgd, r_dgq1, r_dgq0, r_dctG, r_op1, r_eff, r_eff0, r_call, r_call0, r_inl, r_g, r_gq, r_gc, r_effg, r_effg0, r_callg, r_callg0, r_fin, r_pre, r_imp, r_all, r_ex, r_fing, r_preg, r_exg, r_inBlock, r_inLoop, r_frame, r_frame1, r_skip, r_stuck, r_region, r_seq, r_cond, r_cond1, r_block, r_exit, r_exit1, r_exit2, r_ret, r_loop, s_args0, s_args1, s_xt, s_xc, padL, blankL, callee, callArgs, eff, ctOf, getL, setL, S.put, S.upd, unopts, unopt, unoptsO, unoptsB, lazyO, guardOf, gbool, eMov, eNot, eNeg, eConv, eExt, eLenArr, eLen, eLenStr, eEqb, eEqv, allEq, eNil, negIf, eBool2, eCmp, eAri, ari, eBit, eDiv, eSh, eMinMax, foldMin, foldMax, kEq, pure1, cmpB, VO.quiet, resVals, resVal, tupled, popRet, popTo, cond, Option.bind, Option.map, eNew, eBox, asCells, lenH, snocH, eFieldAddr, eField, eLoad, cellsAt, getH, setH, dropL, takeL, mkAgg, lenL, lenS, shift, shiftL, shiftH, viewN, viewL, view, andT, junks, List.append_nil, Nat.beq, eIdxAddr, eIdxArr, idxN_0, idxN_1, idxN_2, idxN_3, eIndex, eStore, storeAt, spliceL, ones, one, eSlice, eSliceArr, bounds, subLo_z, addLo_z, subLo_one, addLo_one, eMake, eAppend, readS, repL, buildCells, chunk, purgeL, purgeLL, purgeH, purge, refs, refsL, List.cons_append, List.nil_append, wrOps, wrAl, wrDops, wrC, junkAt, putAll, putHs, headOf, headK, keepG, List.append_eq, headX, chkP, apartP, apartB, blk, strip, runAl, AL.ho, yld, putPs, lenN, findR, notRound, jumpK, jumpPT, jcode, List.map_cons, List.map_nil, ite_self, reduceIte]
    simp only [true_and, and_true, imp_self, implies_true, decide_eq_true_eq, decide_eq_false_iff_not, Nat.reduceAdd, Nat.reduceLeDiff, Bool.not_not, reduceCtorEq, false_imp_iff, Bool.not_eq_true', Bool.not_eq_false', Bool.false_eq_true, and_self, forall_const, ne_eq, not_false_eq_true, Nat.reduceEqDiff]
    refine ⟨fun hc => ans_bool ?_, fun hc => ⟨fun hd => ans_bool ?_, fun hd => ⟨fun h1 h2 => by rw [decide_eq_false h1, decide_eq_true h2]; rfl, ans_bool ?_⟩⟩⟩
    · simp only [Bool.and_eq_true, Bool.and_true, decide_eq_true_eq, beq_iff_eq, decide_eq_decide] at hc
      have : x = y := by omega
      subst this
      have h : k (.bool (decide (x < x))) [] := h
      rw [decide_eq_false (Int.lt_irrefl x)] at h
      exact h
    · have : decide (x < y) = decide (x < 0) := by
        rw [beq_eq_false_iff_ne, ne_eq, decide_eq_decide] at hd
        rw [decide_eq_decide]; omega
      rw [← this]; exact h
    · have : (!((decide (((x.natAbs / 18446744073709551616 : Nat) : Int) < ((y.natAbs / 18446744073709551616 : Nat) : Int)) || decide (((x.natAbs / 18446744073709551616 : Nat) : Int) = ((y.natAbs / 18446744073709551616 : Nat) : Int)) && decide (((x.natAbs % 18446744073709551616 : Nat) : Int) < ((y.natAbs % 18446744073709551616 : Nat) : Int))) == decide (x < 0))) = decide (x < y) := by
        simp only [beq_iff_eq, decide_eq_decide] at hd
        simp only [Bool.and_eq_false_iff, Bool.and_true, decide_eq_false_iff_not, beq_eq_false_iff_ne, ne_eq, decide_eq_decide] at hc
        have e : (decide (((x.natAbs / 18446744073709551616 : Nat) : Int) < ((y.natAbs / 18446744073709551616 : Nat) : Int)) || decide (((x.natAbs / 18446744073709551616 : Nat) : Int) = ((y.natAbs / 18446744073709551616 : Nat) : Int)) && decide (((x.natAbs % 18446744073709551616 : Nat) : Int) < ((y.natAbs % 18446744073709551616 : Nat) : Int))) = decide (x.natAbs < y.natAbs) := by
          rw [Bool.eq_iff_iff]
          simp only [Bool.or_eq_true, Bool.and_eq_true, decide_eq_true_eq]
          omega
        rw [e]
        by_cases hx : x < 0
        · rw [decide_eq_true hx, Bool.eq_iff_iff, Bool.not_eq_true', beq_eq_false_iff_ne, ne_eq, decide_eq_true_eq, decide_eq_true_eq]; omega
        · rw [decide_eq_false hx, Bool.eq_iff_iff, Bool.not_eq_true', beq_eq_false_iff_ne, ne_eq, decide_eq_false_iff_not, decide_eq_true_eq]; omega
      rw [this]; exact h
  · exact h.1.elim
theorem over_ok : overC.ok Try.prog 62 := by
  refine contract Try.func62 v62_is P1_ok 200 overC fun args k h => ⟨args, ?_⟩
  simp only [overC] at h
  split at h
  · rename_i n hi lo d up
    obtain ⟨x, ⟨⟨rfl, rfl, rfl⟩, hbx, hd0, hd1⟩, h⟩ := h
    refine ⟨by simp [leL, le], ?_⟩
    dsimp only [v62, P1_ct83, div64C, r_end, r_end1, r_nil, r_op, r_opg, r_runOp, r_op0, r_yld0, r_yld1, r_y, r_rbeg, r_rend, r_rend1, r_rfrm, r_rfrm1, r_range, r_rangeK, r_rangeE, r_draw, r_dnil, r_dop, r_dopg, r_dplq, r_dplh, r_dq, r_dq0, r_dcl1, r_dcl0, r_dct1, r_dct0, r_dgd, r_dgq1, r_dgq0, r_dctG, r_op1, r_eff, r_eff0, r_call, r_call0, r_inl, r_g, r_gq, r_gc, r_effg, r_effg0, r_callg, r_callg0, r_fin, r_pre, r_imp, r_all, r_ex, r_fing, r_preg, r_exg, r_inBlock, r_inLoop, r_frame, r_frame1, r_skip, r_stuck, r_region, r_seq, r_cond, r_cond1, r_block, r_exit, r_exit1, r_exit2, r_ret, r_loop, s_args0, s_args1, s_xt, s_xc, padL, blankL, callee, callArgs, eff, ctOf, getL, setL, S.put, S.upd, unopts, unopt, unoptsO, unoptsB, lazyO, guardOf, gbool, eMov, eNot, eNeg, eConv, eExt, eLenArr, eLen, eLenStr, eEqb, eEqv, allEq, eNil, negIf, eBool2, eCmp, eAri, ari, eBit, eDiv, eSh, eMinMax, foldMin, foldMax, kEq, pure1, cmpB, VO.quiet, resVals, resVal, tupled, popRet, popTo, cond, Option.bind, Option.map, eNew, eBox, asCells, lenH, snocH, eFieldAddr, eField, eLoad, cellsAt, getH, setH, dropL, takeL, mkAgg, lenL, lenS, shift, shiftL, shiftH, viewN, viewL, view, andT, junks, List.append_nil, Nat.beq, eIdxAddr, eIdxArr, idxN_0, idxN_1, idxN_2, idxN_3, eIndex, eStore, storeAt, spliceL, ones, one, eSlice, eSliceArr, bounds, subLo_z, addLo_z, subLo_one, addLo_one, eMake, eAppend, readS, repL, buildCells, chunk, purgeL, purgeLL, purgeH, purge, refs, refsL, List.cons_append, List.nil_append, wrOps, wrAl, wrDops, wrC, junkAt, putAll, putHs, headOf, headK, keepG, List.append_eq, headX, chkP, apartP, apartB, blk, strip, runAl, AL.ho, yld, putPs, lenN, findR, notRound, jumpK, jumpPT, jcode, List.map_cons, List.map_nil, ite_self, reduceIte]
    simp only [true_and, and_true, imp_self, implies_true, decide_eq_true_eq, decide_eq_false_iff_not, Nat.reduceAdd, Nat.reduceLeDiff, Bool.not_not, reduceCtorEq, false_imp_iff, Bool.not_eq_true', Bool.not_eq_false', Bool.false_eq_true, and_self, forall_const, ne_eq, not_false_eq_true, Nat.reduceEqDiff]
    obtain ⟨d, rfl⟩ := Int.eq_ofNat_of_zero_le (by omega : 0 ≤ d)
    obtain ⟨m, hm⟩ : ∃ m, m = x.natAbs := ⟨_, rfl⟩
    have hT := rnd_abs (up := up) (x := x) (d := d) (by omega)
    have e0 : ((m / 18446744073709551616 : Nat) : Int) * 18446744073709551616 + ((m % 18446744073709551616 : Nat) : Int) = m := by omega
    have e1 : (m : Int) / (d : Int) = ((m / d : Nat) : Int) := (Int.natCast_ediv _ _).symm
    have e2 : (m : Int) % (d : Int) = ((m % d : Nat) : Int) := (Int.natCast_emod _ _).symm
    rw [← hm] at hT ⊢
    rw [e0, e1, e2]
    have hF : rndF up x d = rndB (nsg (decide (x < 0)) (m / d + bump up (decide (x < 0)) (m % d))) := by unfold rndF; rw [hT]
    have hfail : 4611686018427387904 < m / d + bump up (decide (x < 0)) (m % d) → rndF up x d = (0, false) := fun hh => by
      rw [hF, rndB, if_neg]
      have := nsg_abs (decide (x < 0)) (m / d + bump up (decide (x < 0)) (m % d))
      omega
    have hgood : m / d + bump up (decide (x < 0)) (m % d) ≤ 4611686018427387904 → rndF up x d = (nsg (decide (x < 0)) (m / d + bump up (decide (x < 0)) (m % d)), true) := fun hh => by
      rw [hF, rndB, if_pos]
      have := nsg_abs (decide (x < 0)) (m / d + bump up (decide (x < 0)) (m % d))
      omega
    have h : k (.tup [.int .i64 (rndF up x d).1, .bool (rndF up x d).2]) [] := h
    have fin : ∀ (t : Int) (b : Bool) (hp : List HO), rndF up x d = (t, b) → answers overC.alias k (.tup [.int .i64 t, .bool b]) hp := fun t b hp hh => by
      rw [hh] at h
      exact ans_le (show k _ [] from h) (le_self (.tup [.int .i64 t, .bool b]) ⟨trivial, trivial, trivial⟩) (fun _ => by simp [freshS, freshL])
    have hQ1 : ¬ (d : Int) ≤ ((m / 18446744073709551616 : Nat) : Int) → m / d < 18446744073709551616 := fun hc => by
      rw [Nat.div_lt_iff_lt_mul (by omega)]
      have h1 : m / 18446744073709551616 < d := by omega
      rw [Nat.div_lt_iff_lt_mul (by decide)] at h1
      rw [Nat.mul_comm]; exact h1
    have hQ2 : (d : Int) ≤ ((m / 18446744073709551616 : Nat) : Int) → 18446744073709551616 ≤ m / d := fun hc => by
      rw [Nat.le_div_iff_mul_le (by omega)]
      have h1 : d ≤ m / 18446744073709551616 := by omega
      rw [Nat.le_div_iff_mul_le (by decide)] at h1
      rw [Nat.mul_comm]; exact h1
    have hd0' : (0 : Int) < (d : Int) := hd0
    clear hT e1 e2
    generalize m / d = Q at *
    generalize m % d = R at *
    have ez : (!decide ((R : Int) = 0)) = decide (R ≠ 0) := by
      rw [← decide_not]; congr 1; exact propext (by omega)
    refine ⟨fun hc => fin _ _ _ (hfail ?_), fun hc => ⟨⟨⟨by omega, by omega⟩, by omega, by omega, by omega⟩, by decide, by decide, fun hb => ?_, fun hb => ?_⟩⟩
    · have := hQ2 hc
      omega
    · have hQ := hQ1 hc
      rw [ez] at hb ⊢
      have hbump : bump up (decide (x < 0)) (R) = 1 := by unfold bump; exact if_pos hb
      rw [hbump] at hfail hgood
      have hcond : ∀ w : Int, ((decide (4611686018427387904 < w) || decide (w = 0) && decide (R ≠ 0) && !(up == decide (x < 0))) = true ↔ 4611686018427387904 < w ∨ w = 0) := fun w => by
        rw [Bool.and_assoc, hb, Bool.and_true, Bool.or_eq_true, decide_eq_true_eq, decide_eq_true_eq]
      have hw : (4611686018427387904 < IntKind.u64.wrap ((Q : Int) + 1) ∨ IntKind.u64.wrap ((Q : Int) + 1) = 0) ↔ 4611686018427387904 < Q + 1 := by
        rw [u_mod]; omega
      refine ⟨fun h1 h2 => by rw [decide_eq_false h1, decide_eq_true h2]; rfl, fun h1 h2 => by rw [decide_eq_false h1, h2]; rfl, fun hcc => fin _ _ _ (hfail (hw.1 ((hcond _).1 hcc))), fun hcc => ?_⟩
      have hsm : Q + 1 ≤ 4611686018427387904 := by
        refine Nat.le_of_not_lt fun hh => ?_
        have := (hcond _).2 (hw.2 hh)
        rw [hcc] at this; cases this
      have hg := hgood hsm
      rw [IntWalk.u64_in _ (by omega)]
      refine ⟨fun hx => fin _ _ _ ?_, fun hx => fin _ _ _ ?_⟩
      · rw [hg, IntWalk.i64_in ((Q : Int) + 1) (by omega), IntWalk.i64_in _ (by omega)]
        unfold nsg
        simp only [hx, decide_true, if_true]
        congr 1 <;> omega
      · rw [hg, IntWalk.i64_in _ (by omega)]
        unfold nsg
        simp only [hx, decide_false, Bool.false_eq_true, if_false]
        rfl
    · have hQ := hQ1 hc
      rw [ez] at hb ⊢
      have hbump : bump up (decide (x < 0)) (R) = 0 := by unfold bump; exact if_neg (by rw [show (up != decide (x < 0)) = !(up == decide (x < 0)) from rfl, hb]; simp)
      rw [hbump, Nat.add_zero] at hfail hgood
      have hcond : ∀ w : Int, ((decide (4611686018427387904 < w) || decide (w = 0) && decide (R ≠ 0) && !(up == decide (x < 0))) = true ↔ 4611686018427387904 < w) := fun w => by
        rw [Bool.and_assoc, hb, Bool.and_false, Bool.or_false, decide_eq_true_eq]
      refine ⟨fun h1 h2 => by rw [decide_eq_false h1, decide_eq_true h2]; rfl, fun h1 h2 => by rw [decide_eq_false h1, h2]; rfl, fun hcc => fin _ _ _ (hfail (by have := (hcond _).1 hcc; omega)), fun hcc => ?_⟩
      have hsm : Q ≤ 4611686018427387904 := by
        refine Nat.le_of_not_lt fun hh => ?_
        have := (hcond (Q : Int)).2 (by omega)
        rw [hcc] at this; cases this
      have hg := hgood hsm
      refine ⟨fun hx => fin _ _ _ ?_, fun hx => fin _ _ _ ?_⟩
      · rw [hg, IntWalk.i64_in (Q : Int) (by omega), IntWalk.i64_in _ (by omega)]
        unfold nsg
        simp only [hx, decide_true, if_true]
        congr 1 <;> omega
      · rw [hg, IntWalk.i64_in _ (by omega)]
        unfold nsg
        simp only [hx, decide_false, Bool.false_eq_true, if_false]
  · exact h.1.elim
def P2 : Env := { ct := fun n => match n with | 43 => some numC | 66 => some lessC | 62 => some overC | _ => none, fn := fun _ => none, meth := fun _ _ => none }
theorem P2_ct43 : P2.ct 43 = some numC := rfl
theorem P2_ct66 : P2.ct 66 = some lessC := rfl
theorem P2_ct62 : P2.ct 62 = some overC := rfl
theorem P2_ok : EnvOk Try.prog P2 := by
  refine ⟨fun f c h => ?_, fun f vf h => ?_, fun _ _ => rfl, by kernel_rfl⟩
  · simp only [P2] at h
    split at h
    · cases h; exact ⟨num_ok, Try.f43, Try.func43, by kernel_rfl, by kernel_rfl⟩
    · cases h; exact ⟨less_ok, Try.f66, Try.func66, by kernel_rfl, by kernel_rfl⟩
    · cases h; exact ⟨over_ok, Try.f62, Try.func62, by kernel_rfl, by kernel_rfl⟩
    · cases h
  · cases h


theorem fit_ok : fitC.ok Try.prog 61 := by
  refine contract Try.func61 v61_is P2_ok 200 fitC fun args k h => ⟨args, ?_⟩
  simp only [fitC] at h
  split at h
  · rename_i a b
    refine ⟨by simp [leL, le], ?_⟩
    dsimp only [v61, P2_ct43, numC, r_end, r_end1, r_nil, r_op, r_opg, r_runOp, r_op0, r_yld0, r_yld1, r_y, r_rbeg, r_rend, r_rend1, r_rfrm, r_rfrm1, r_range, r_rangeK, r_rangeE, r_draw, r_dnil, r_dop, r_dopg, r_dplq, r_dplh, r_dq, r_dq0, r_dcl1, r_dcl0, r_dct1, r_dct0, r_dgd, r_dgq1, r_dgq0, r_dctG, r_op1, r_eff, r_eff0, r_call, r_call0, r_inl, r_g, r_gq, r_gc, r_effg, r_effg0, r_callg, r_callg0, r_fin, r_pre, r_imp, r_all, r_ex, r_fing, r_preg, r_exg, r_inBlock, r_inLoop, r_frame, r_frame1, r_skip, r_stuck, r_region, r_seq, r_cond, r_cond1, r_block, r_exit, r_exit1, r_exit2, r_ret, r_loop, s_args0, s_args1, s_xt, s_xc, padL, blankL, callee, callArgs, eff, ctOf, getL, setL, S.put, S.upd, unopts, unopt, unoptsO, unoptsB, lazyO, guardOf, gbool, eMov, eNot, eNeg, eConv, eExt, eLenArr, eLen, eLenStr, eEqb, eEqv, allEq, eNil, negIf, eBool2, eCmp, eAri, ari, eBit, eDiv, eSh, eMinMax, foldMin, foldMax, kEq, pure1, cmpB, VO.quiet, resVals, resVal, tupled, popRet, popTo, cond, Option.bind, Option.map, eNew, eBox, asCells, lenH, snocH, eFieldAddr, eField, eLoad, cellsAt, getH, setH, dropL, takeL, mkAgg, lenL, lenS, shift, shiftL, shiftH, viewN, viewL, view, andT, junks, List.append_nil, Nat.beq, eIdxAddr, eIdxArr, idxN_0, idxN_1, idxN_2, idxN_3, eIndex, eStore, storeAt, spliceL, ones, one, eSlice, eSliceArr, bounds, subLo_z, addLo_z, subLo_one, addLo_one, eMake, eAppend, readS, repL, buildCells, chunk, purgeL, purgeLL, purgeH, purge, refs, refsL, List.cons_append, List.nil_append, wrOps, wrAl, wrDops, wrC, junkAt, putAll, putHs, headOf, headK, keepG, List.append_eq, headX, chkP, apartP, apartB, blk, strip, runAl, AL.ho, yld, putPs, lenN, findR, notRound, jumpK, jumpPT, jcode, List.map_cons, List.map_nil, ite_self, reduceIte]
    simp only [true_and, and_true, imp_self, implies_true, decide_eq_true_eq, decide_eq_false_iff_not, Nat.reduceAdd, Nat.reduceLeDiff, Bool.not_not, reduceCtorEq, false_imp_iff, Bool.not_eq_true', Bool.not_eq_false', Bool.false_eq_true, and_self, forall_const, ne_eq, not_false_eq_true, Nat.reduceEqDiff]
    refine ⟨fun hc => ?_, fun hc => ?_⟩
    · rw [fitF, if_neg (by rw [← Bool.not_and, Bool.not_eq_true'] at hc; simp [hc])] at h
      exact ans_le (show k _ [] from h) (le_self (.tup [.agg (enc2 (0, 0)), .int .i64 7]) ⟨⟨trivial, trivial, trivial⟩, trivial, trivial⟩) (fun _ => by simp [enc2, freshS, freshL])
    · rw [fitF, if_pos (by rw [← Bool.not_and, Bool.not_eq_false'] at hc; exact hc)] at h
      exact ans_le (show k _ [] from h) (le_self (.tup [.agg (enc2 (a, b)), .int .i64 0]) ⟨⟨trivial, trivial, trivial⟩, trivial, trivial⟩) (fun _ => by simp [enc2, freshS, freshL])
  · exact h.1.elim

theorem span_ok : spanC.ok Try.prog 44 := by
  refine contract Try.func44 v44_is P2_ok 400 spanC fun args k h => ?_
  simp only [spanC] at h
  split at h
  · rename_i d tt z n sz get
    obtain ⟨x, r, ⟨⟨rfl, rfl, hg⟩, hmax, hbig, hd0, hd1⟩, h⟩ := h
    refine ⟨[.int .u64 d, .vs tt z (x :: r).length 3 (fun k => longE ((x :: r).getD k default))], ⟨⟨rfl, rfl⟩, by simpa [le] using hg, trivial⟩, ?_⟩
    dsimp only [v44, longE, r_end, r_end1, r_nil, r_op, r_opg, r_runOp, r_op0, r_yld0, r_yld1, r_y, r_rbeg, r_rend, r_rend1, r_rfrm, r_rfrm1, r_range, r_rangeK, r_rangeE, r_draw, r_dnil, r_dop, r_dopg, r_dplq, r_dplh, r_dq, r_dq0, r_dcl1, r_dcl0, r_dct1, r_dct0, r_dgd, r_dgq1, r_dgq0, r_dctG, r_op1, r_eff, r_eff0, r_call, r_call0, r_inl, r_g, r_gq, r_gc, r_effg, r_effg0, r_callg, r_callg0, r_fin, r_pre, r_imp, r_all, r_ex, r_fing, r_preg, r_exg, r_inBlock, r_inLoop, r_frame, r_frame1, r_skip, r_stuck, r_region, r_seq, r_cond, r_cond1, r_block, r_exit, r_exit1, r_exit2, r_ret, r_loop, s_args0, s_args1, s_xt, s_xc, padL, blankL, callee, callArgs, eff, ctOf, getL, setL, S.put, S.upd, unopts, unopt, unoptsO, unoptsB, lazyO, guardOf, gbool, eMov, eNot, eNeg, eConv, eExt, eLenArr, eLen, eLenStr, eEqb, eEqv, allEq, eNil, negIf, eBool2, eCmp, eAri, ari, eBit, eDiv, eSh, eMinMax, foldMin, foldMax, kEq, pure1, cmpB, VO.quiet, resVals, resVal, tupled, popRet, popTo, cond, Option.bind, Option.map, eNew, eBox, asCells, lenH, snocH, eFieldAddr, eField, eLoad, cellsAt, getH, setH, dropL, takeL, mkAgg, lenL, lenS, shift, shiftL, shiftH, viewN, viewL, view, andT, junks, List.append_nil, Nat.beq, eIdxAddr, eIdxArr, idxN_0, idxN_1, idxN_2, idxN_3, eIndex, eStore, storeAt, spliceL, ones, one, eSlice, eSliceArr, bounds, subLo_z, addLo_z, subLo_one, addLo_one, eMake, eAppend, readS, repL, buildCells, chunk, purgeL, purgeLL, purgeH, purge, refs, refsL, List.cons_append, List.nil_append, wrOps, wrAl, wrDops, wrC, junkAt, putAll, putHs, headOf, headK, keepG, List.append_eq, headX, chkP, apartP, apartB, blk, strip, runAl, AL.ho, yld, putPs, lenN, findR, notRound, jumpK, jumpPT, jcode, List.map_cons, List.map_nil, ite_self, reduceIte]
    simp only [true_and, and_true, imp_self, implies_true, decide_eq_true_eq, decide_eq_false_iff_not, Nat.reduceAdd, Nat.reduceLeDiff, Bool.not_not, reduceCtorEq, false_imp_iff, Bool.not_eq_true', Bool.not_eq_false', Bool.false_eq_true, and_self, forall_const, ne_eq, not_false_eq_true, Nat.reduceEqDiff]
    have hlen : ((x :: r).length : Int) = r.length + 1 := by simp
    refine ⟨⟨by decide, by omega⟩, ⟨by decide, by omega⟩, ⟨by decide, by omega⟩, ?_⟩
    have hlen2 : (x :: r).length - (0 + 1) = r.length := by simp
    refine Loop.keep [0, 0, 2, 0, 0, 0, 13, 0] Nat (fun i => [(23, .int .i64 i)]) (fun i => [(1, .box (longE (lowI x (r.take i)))), (2, .box (longE (highI x (r.take i))))]) [] (fun i => i ≤ r.length) (fun i => r.length - i) ?_ ?_
    · refine ⟨0, Nat.zero_le _, ?_⟩
      dsimp only [longE, r_end, r_end1, r_nil, r_op, r_opg, r_runOp, r_op0, r_yld0, r_yld1, r_y, r_rbeg, r_rend, r_rend1, r_rfrm, r_rfrm1, r_range, r_rangeK, r_rangeE, r_draw, r_dnil, r_dop, r_dopg, r_dplq, r_dplh, r_dq, r_dq0, r_dcl1, r_dcl0, r_dct1, r_dct0, r_dgd, r_dgq1, r_dgq0, r_dctG, r_op1, r_eff, r_eff0, r_call, r_call0, r_inl, r_g, r_gq, r_gc, r_effg, r_effg0, r_callg, r_callg0, r_fin, r_pre, r_imp, r_all, r_ex, r_fing, r_preg, r_exg, r_inBlock, r_inLoop, r_frame, r_frame1, r_skip, r_stuck, r_region, r_seq, r_cond, r_cond1, r_block, r_exit, r_exit1, r_exit2, r_ret, r_loop, s_args0, s_args1, s_xt, s_xc, padL, blankL, callee, callArgs, eff, ctOf, getL, setL, S.put, S.upd, unopts, unopt, unoptsO, unoptsB, lazyO, guardOf, gbool, eMov, eNot, eNeg, eConv, eExt, eLenArr, eLen, eLenStr, eEqb, eEqv, allEq, eNil, negIf, eBool2, eCmp, eAri, ari, eBit, eDiv, eSh, eMinMax, foldMin, foldMax, kEq, pure1, cmpB, VO.quiet, resVals, resVal, tupled, popRet, popTo, cond, Option.bind, Option.map, eNew, eBox, asCells, lenH, snocH, eFieldAddr, eField, eLoad, cellsAt, getH, setH, dropL, takeL, mkAgg, lenL, lenS, shift, shiftL, shiftH, viewN, viewL, view, andT, junks, List.append_nil, Nat.beq, eIdxAddr, eIdxArr, idxN_0, idxN_1, idxN_2, idxN_3, eIndex, eStore, storeAt, spliceL, ones, one, eSlice, eSliceArr, bounds, subLo_z, addLo_z, subLo_one, addLo_one, eMake, eAppend, readS, repL, buildCells, chunk, purgeL, purgeLL, purgeH, purge, refs, refsL, List.cons_append, List.nil_append, wrOps, wrAl, wrDops, wrC, junkAt, putAll, putHs, headOf, headK, keepG, List.append_eq, headX, chkP, apartP, apartB, blk, strip, runAl, AL.ho, yld, putPs, lenN, findR, notRound, jumpK, jumpPT, jcode, List.map_cons, List.map_nil, ite_self, reduceIte]
      simp only [leS_mk, leL_cons, leL_nil, le_junk, le_int, le_bool, le_nil, leLL_nil, leLL_cons, leH_cons, leH_nil, leH1_box, leH1_own, leH1_gone, le_vs, le_agg, le_tup, le_ptr, le_own, le_xp, le_fn, le_opt, le_val, le_elem, le_nil_own, le_nil_vs, leH_ghost, leL_chunk, leXL_id, bnd_int, bnd_bool, bnd_val, bnd_nil, bnd_junk, bnd_vs, bnd_xp, bnd_agg, bnd_tup, bnd_ptr, bnd_own, bnd_elem, bnd_fn, bnd_iface, bnd_opt, bndL_nil, bndL_cons, lenH_cons, lenH_nil, imp_self, implies_true, true_and, and_true]
      refine ⟨by simp, ?_, ?_⟩ <;> simp [lowI, highI] <;> rfl
    · rintro i hi
      dsimp only [P2_ct66, P2_ct62, lessC, overC, longE, Int.toNat_natCast, r_end, r_end1, r_nil, r_op, r_opg, r_runOp, r_op0, r_yld0, r_yld1, r_y, r_rbeg, r_rend, r_rend1, r_rfrm, r_rfrm1, r_range, r_rangeK, r_rangeE, r_draw, r_dnil, r_dop, r_dopg, r_dplq, r_dplh, r_dq, r_dq0, r_dcl1, r_dcl0, r_dct1, r_dct0, r_dgd, r_dgq1, r_dgq0, r_dctG, r_op1, r_eff, r_eff0, r_call, r_call0, r_inl, r_g, r_gq, r_gc, r_effg, r_effg0, r_callg, r_callg0, r_fin, r_pre, r_imp, r_all, r_ex, r_fing, r_preg, r_exg, r_inBlock, r_inLoop, r_frame, r_frame1, r_skip, r_stuck, r_region, r_seq, r_cond, r_cond1, r_block, r_exit, r_exit1, r_exit2, r_ret, r_loop, s_args0, s_args1, s_xt, s_xc, padL, blankL, callee, callArgs, eff, ctOf, getL, setL, S.put, S.upd, unopts, unopt, unoptsO, unoptsB, lazyO, guardOf, gbool, eMov, eNot, eNeg, eConv, eExt, eLenArr, eLen, eLenStr, eEqb, eEqv, allEq, eNil, negIf, eBool2, eCmp, eAri, ari, eBit, eDiv, eSh, eMinMax, foldMin, foldMax, kEq, pure1, cmpB, VO.quiet, resVals, resVal, tupled, popRet, popTo, cond, Option.bind, Option.map, eNew, eBox, asCells, lenH, snocH, eFieldAddr, eField, eLoad, cellsAt, getH, setH, dropL, takeL, mkAgg, lenL, lenS, shift, shiftL, shiftH, viewN, viewL, view, andT, junks, List.append_nil, Nat.beq, eIdxAddr, eIdxArr, idxN_0, idxN_1, idxN_2, idxN_3, eIndex, eStore, storeAt, spliceL, ones, one, eSlice, eSliceArr, bounds, subLo_z, addLo_z, subLo_one, addLo_one, eMake, eAppend, readS, repL, buildCells, chunk, purgeL, purgeLL, purgeH, purge, refs, refsL, List.cons_append, List.nil_append, wrOps, wrAl, wrDops, wrC, junkAt, putAll, putHs, headOf, headK, keepG, List.append_eq, headX, chkP, apartP, apartB, blk, strip, runAl, AL.ho, yld, putPs, lenN, findR, notRound, jumpK, jumpPT, jcode, List.map_cons, List.map_nil, ite_self, reduceIte]
      simp only [true_and, and_true, imp_self, implies_true, decide_eq_true_eq, decide_eq_false_iff_not, Nat.reduceAdd, Nat.reduceLeDiff, Bool.not_not, reduceCtorEq, false_imp_iff, Bool.not_eq_true', Bool.not_eq_false', Bool.false_eq_true, and_self, forall_const, ne_eq, not_false_eq_true, Nat.reduceEqDiff]
      have ey : (x :: r).getD (1 + i) default = r.getD i default := by rw [Nat.add_comm]; rfl
      have elen : (((x :: r).length - 1 : Nat) : Int) = r.length := by simp
      simp only [ey, elen]
      refine ⟨fun hlt => ⟨⟨by omega, by omega⟩, r.getD i default, lowI x (r.take i), ⟨longP_self _, longP_self _⟩, ?_⟩, fun hge => ?_⟩
      · have eL : lowI x (r.take (i + 1)) = if r.getD i default < lowI x (r.take i) then r.getD i default else lowI x (r.take i) := foldl_take_succ (by omega)
        have eH : highI x (r.take (i + 1)) = if highI x (r.take i) < r.getD i default then r.getD i default else highI x (r.take i) := foldl_take_succ (by omega)
        have hw := w_succ (i := i) (n := r.length) (by omega) (by omega)
        refine ⟨fun h1 => ⟨highI x (r.take i), r.getD i default, ⟨longP_self _, longP_self _⟩, fun h2 => ⟨i + 1, by omega, by omega, ?_⟩, fun h2 => ⟨i + 1, by omega, by omega, ?_⟩⟩,
          fun h1 => ⟨highI x (r.take i), r.getD i default, ⟨longP_self _, longP_self _⟩, fun h2 => ⟨i + 1, by omega, by omega, ?_⟩, fun h2 => ⟨i + 1, by omega, by omega, ?_⟩⟩⟩
        · simp only [eL, eH, if_pos h1, if_pos h2, hw, leS_mk, leL_cons, leL_nil, le_junk, le_int, le_bool, le_nil, leLL_nil, leLL_cons, leH_cons, leH_nil, leH1_box, leH1_own, leH1_gone, le_vs, le_agg, le_tup, le_ptr, le_own, le_xp, le_fn, le_opt, le_val, le_elem, le_nil_own, le_nil_vs, leH_ghost, leL_chunk, leXL_id, bnd_int, bnd_bool, bnd_val, bnd_nil, bnd_junk, bnd_vs, bnd_xp, bnd_agg, bnd_tup, bnd_ptr, bnd_own, bnd_elem, bnd_fn, bnd_iface, bnd_opt, bndL_nil, bndL_cons, lenH_cons, lenH_nil, imp_self, implies_true, true_and, and_true]
          simp
        · simp only [eL, eH, if_pos h1, if_neg h2, hw, leS_mk, leL_cons, leL_nil, le_junk, le_int, le_bool, le_nil, leLL_nil, leLL_cons, leH_cons, leH_nil, leH1_box, leH1_own, leH1_gone, le_vs, le_agg, le_tup, le_ptr, le_own, le_xp, le_fn, le_opt, le_val, le_elem, le_nil_own, le_nil_vs, leH_ghost, leL_chunk, leXL_id, bnd_int, bnd_bool, bnd_val, bnd_nil, bnd_junk, bnd_vs, bnd_xp, bnd_agg, bnd_tup, bnd_ptr, bnd_own, bnd_elem, bnd_fn, bnd_iface, bnd_opt, bndL_nil, bndL_cons, lenH_cons, lenH_nil, imp_self, implies_true, true_and, and_true]
          simp
        · simp only [eL, eH, if_neg h1, if_pos h2, hw, leS_mk, leL_cons, leL_nil, le_junk, le_int, le_bool, le_nil, leLL_nil, leLL_cons, leH_cons, leH_nil, leH1_box, leH1_own, leH1_gone, le_vs, le_agg, le_tup, le_ptr, le_own, le_xp, le_fn, le_opt, le_val, le_elem, le_nil_own, le_nil_vs, leH_ghost, leL_chunk, leXL_id, bnd_int, bnd_bool, bnd_val, bnd_nil, bnd_junk, bnd_vs, bnd_xp, bnd_agg, bnd_tup, bnd_ptr, bnd_own, bnd_elem, bnd_fn, bnd_iface, bnd_opt, bndL_nil, bndL_cons, lenH_cons, lenH_nil, imp_self, implies_true, true_and, and_true]
          simp
        · simp only [eL, eH, if_neg h1, if_neg h2, hw, leS_mk, leL_cons, leL_nil, le_junk, le_int, le_bool, le_nil, leLL_nil, leLL_cons, leH_cons, leH_nil, leH1_box, leH1_own, leH1_gone, le_vs, le_agg, le_tup, le_ptr, le_own, le_xp, le_fn, le_opt, le_val, le_elem, le_nil_own, le_nil_vs, leH_ghost, leL_chunk, leXL_id, bnd_int, bnd_bool, bnd_val, bnd_nil, bnd_junk, bnd_vs, bnd_xp, bnd_agg, bnd_tup, bnd_ptr, bnd_own, bnd_elem, bnd_fn, bnd_iface, bnd_opt, bndL_nil, bndL_cons, lenH_cons, lenH_nil, imp_self, implies_true, true_and, and_true]
          simp
      · obtain rfl : i = r.length := by omega
        rw [List.take_length]
        have hl := lowI_spec x r
        have hh := highI_spec x r
        refine ⟨lowI x r, ⟨longP_self _, hbig _ hl.1, hd0, hd1⟩, by decide, by decide, highI x r, ⟨longP_self _, hbig _ hh.1, hd0, hd1⟩, by decide, by decide, ?_⟩
        have h : k (.tup [.agg (enc2 (spanI d x r).1), .int .i64 (spanI d x r).2]) [] := h
        unfold spanI spanR at h
        refine ⟨fun hb => ?_, fun hb => ?_⟩
        · rw [if_neg (by rw [← Bool.not_and, Bool.not_eq_true'] at hb; rw [hb]; simp)] at h
          exact ans_le (show k _ [] from h) (le_self (.tup [.agg (enc2 (0, 0)), .int .i64 7]) ⟨⟨trivial, trivial, trivial⟩, trivial, trivial⟩) (fun _ => by simp [enc2, freshS, freshL])
        · rw [if_pos (by rw [← Bool.not_and, Bool.not_eq_false'] at hb; exact hb)] at h
          exact ans_le (show k _ [] from h) (le_self (.tup [.agg (enc2 ((rndF false (lowI x r) d).1, (rndF true (highI x r) d).1)), .int .i64 0]) ⟨⟨trivial, trivial, trivial⟩, trivial, trivial⟩) (fun _ => by simp [enc2, freshS, freshL])
  · exact h.1.elim
end Go.Proofs.Ytdognchniaojoaa
