/- Chests, walked: the reference's functions. -/
import Derived.Test.YtngccjllkgpjmaaMgX1f
import Derived.Test.YtngccjllkgpjmaaMgX1c
import Derived.Test.YtngccjllkgpjmaaRows
/- Chests, walked: the reference's functions. -/
set_option linter.all false
namespace Go.Proofs.Ytngccjllkgpjmaa
open Go Go.Vx
set_option maxRecDepth 100000
set_option maxHeartbeats 4000000

def v32 : VF := { ntmps := 15, res := [.tmp 6], body :=
 (.seq (.region [⟨(some 6), none, .mov, [.cn (.bool false)]⟩])
 (.seq (.region [⟨(some 7), none, .mov, [.tm 0]⟩,
  ⟨(some 8), none, .mov, [.tm 1]⟩,
  ⟨(some 9), none, (.cmp .geq), [.tm 7, .tm 8]⟩,
  ⟨(some 10), none, .mov, [.tm 9]⟩,
  ⟨(some 11), (some (10, true)), .mov, [.tm 0]⟩,
  ⟨(some 12), (some (10, true)), .mov, [.tm 2]⟩,
  ⟨(some 13), (some (10, true)), (.cmp .leq), [.tm 11, .tm 12]⟩,
  ⟨(some 14), none, .and, [.tm 10, .tm 13]⟩,
  ⟨(some 6), none, .mov, [.tm 14]⟩])
 .ret)) }
theorem v32_is : vfunc Try.prog Try.f32 = some v32 := by kernel_rfl
def v53 : VF := { ntmps := 6, res := [.cell 2 true 2], body :=
 (.seq (.region [⟨(some 2), none, (.alloc [(.int .i64 0), (.int .i64 0)]), []⟩])
 (.seq (.region [⟨(some 3), none, .mov, [.tm 0]⟩,
  ⟨(some 4), none, .mov, [.tm 0]⟩,
  ⟨(some 5), none, (.build [(.int .i64 0), (.int .i64 0)] [(0, 1), (1, 1)]), [.tm 3, .tm 4]⟩,
  ⟨none, none, (.store 2), [.tm 2, .tm 5]⟩])
 .ret)) }
theorem v53_is : vfunc Try.prog Try.f53 = some v53 := by kernel_rfl
def v50 : VF := { ntmps := 21, res := [.tmp 2], body :=
 (.seq (.region [⟨(some 1), none, .box, [.tm 0]⟩,
  ⟨(some 2), none, .mov, [.cn (.bool false)]⟩])
 (.seq (.region [⟨(some 3), none, (.fieldAddr 0), [.tm 1]⟩,
  ⟨(some 4), none, (.load false 1), [.tm 3]⟩,
  ⟨(some 5), none, (.call 32), [.tm 4, .cn (.int .i64 1000), .cn (.int .i64 100000)]⟩,
  ⟨(some 6), none, .mov, [.tm 5]⟩,
  ⟨(some 7), (some (6, true)), (.fieldAddr 1), [.tm 1]⟩,
  ⟨(some 8), (some (6, true)), (.load false 1), [.tm 7]⟩,
  ⟨(some 9), (some (6, true)), (.call 32), [.tm 8, .cn (.int .i64 10000), .cn (.int .i64 1000000)]⟩,
  ⟨(some 10), none, .and, [.tm 6, .tm 9]⟩,
  ⟨(some 11), none, .mov, [.tm 10]⟩,
  ⟨(some 12), (some (11, true)), (.fieldAddr 2), [.tm 1]⟩,
  ⟨(some 13), (some (11, true)), (.load false 1), [.tm 12]⟩,
  ⟨(some 14), (some (11, true)), (.call 32), [.tm 13, .cn (.int .i64 500), .cn (.int .i64 30000)]⟩,
  ⟨(some 15), none, .and, [.tm 11, .tm 14]⟩,
  ⟨(some 16), none, .mov, [.tm 15]⟩,
  ⟨(some 17), (some (16, true)), (.fieldAddr 3), [.tm 1]⟩,
  ⟨(some 18), (some (16, true)), (.load false 1), [.tm 17]⟩,
  ⟨(some 19), (some (16, true)), (.call 32), [.tm 18, .cn (.int .i64 0), .cn (.int .i64 10000000)]⟩,
  ⟨(some 20), none, .and, [.tm 16, .tm 19]⟩,
  ⟨(some 2), none, .mov, [.tm 20]⟩])
 .ret)) }
theorem v50_is : vfunc Try.prog Try.f50 = some v50 := by kernel_rfl
def v49 : VF := { ntmps := 21, res := [.tmp 2], body :=
 (.seq (.region [⟨(some 1), none, .box, [.tm 0]⟩,
  ⟨(some 2), none, .mov, [.cn (.bool false)]⟩])
 (.seq (.region [⟨(some 3), none, (.fieldAddr 0), [.tm 1]⟩,
  ⟨(some 4), none, (.load false 1), [.tm 3]⟩,
  ⟨(some 5), none, (.cmp .geq), [.tm 4, .cn (.int .i64 100)]⟩,
  ⟨(some 6), none, .mov, [.tm 5]⟩,
  ⟨(some 7), (some (6, true)), (.fieldAddr 0), [.tm 1]⟩,
  ⟨(some 8), (some (6, true)), (.load false 1), [.tm 7]⟩,
  ⟨(some 9), (some (6, true)), (.cmp .leq), [.tm 8, .cn (.int .i64 100000)]⟩,
  ⟨(some 10), none, .and, [.tm 6, .tm 9]⟩,
  ⟨(some 11), none, .mov, [.tm 10]⟩,
  ⟨(some 12), (some (11, true)), (.fieldAddr 1), [.tm 1]⟩,
  ⟨(some 13), (some (11, true)), (.load false 1), [.tm 12]⟩,
  ⟨(some 14), (some (11, true)), (.cmp .geq), [.tm 13, .cn (.int .i64 100)]⟩,
  ⟨(some 15), none, .and, [.tm 11, .tm 14]⟩,
  ⟨(some 16), none, .mov, [.tm 15]⟩,
  ⟨(some 17), (some (16, true)), (.fieldAddr 1), [.tm 1]⟩,
  ⟨(some 18), (some (16, true)), (.load false 1), [.tm 17]⟩,
  ⟨(some 19), (some (16, true)), (.cmp .leq), [.tm 18, .cn (.int .i64 1000)]⟩,
  ⟨(some 20), none, .and, [.tm 16, .tm 19]⟩,
  ⟨(some 2), none, .mov, [.tm 20]⟩])
 .ret)) }
theorem v49_is : vfunc Try.prog Try.f49 = some v49 := by kernel_rfl
def v30 : VF := { ntmps := 18, res := [.tmp 2], body :=
 (.seq (.region [⟨(some 1), none, .box, [.tm 0]⟩,
  ⟨(some 2), none, .mov, [.cn (.bool false)]⟩])
 (.seq (.seq (.region [⟨(some 3), none, .mov, [.cn (.int .i64 0)]⟩])
 (.block 0 (.loop (.seq (.seq (.region [⟨(some 4), none, .mov, [.tm 3]⟩,
  ⟨(some 5), none, (.fieldAddr 0), [.tm 1]⟩,
  ⟨(some 6), none, (.load false 1), [.tm 5]⟩,
  ⟨(some 7), none, .len, [.tm 6]⟩,
  ⟨(some 8), none, (.cmp .lss), [.tm 4, .tm 7]⟩])
 (.cond (.tm 8) .skip
  (.exit 0)))
 (.seq (.block 1 (.seq (.region [⟨(some 11), none, (.fieldAddr 0), [.tm 1]⟩,
  ⟨(some 12), none, (.load false 1), [.tm 11]⟩,
  ⟨(some 13), none, .mov, [.tm 3]⟩,
  ⟨(some 14), none, (.idxAddr 2), [.tm 12, .tm 13]⟩,
  ⟨(some 15), none, (.load true 2), [.tm 14]⟩,
  ⟨(some 16), none, (.call 49), [.tm 15]⟩,
  ⟨(some 17), none, .not, [.tm 16]⟩])
 (.cond (.tm 17) (.seq (.region [⟨(some 2), none, .mov, [.cn (.bool false)]⟩])
 .ret)
  .skip)))
 (.region [⟨(some 9), none, .mov, [.tm 3]⟩,
  ⟨(some 10), none, (.ari .add), [.tm 9, .cn (.int .i64 1)]⟩,
  ⟨(some 3), none, .mov, [.tm 10]⟩]))))))
 (.seq (.region [⟨(some 2), none, .mov, [.cn (.bool true)]⟩])
 .ret))) }
theorem v30_is : vfunc Try.prog Try.f30 = some v30 := by kernel_rfl
def v31 : VF := { ntmps := 16, res := [.tmp 2], body :=
 (.seq (.region [⟨(some 2), none, .mov, [.cn (.bool false)]⟩])
 (.seq (.seq (.region [⟨(some 3), none, .mov, [.cn (.int .i64 0)]⟩])
 (.block 0 (.loop (.seq (.seq (.region [⟨(some 4), none, .mov, [.tm 3]⟩,
  ⟨(some 5), none, .mov, [.tm 0]⟩,
  ⟨(some 6), none, .len, [.tm 5]⟩,
  ⟨(some 7), none, (.cmp .lss), [.tm 4, .tm 6]⟩])
 (.cond (.tm 7) .skip
  (.exit 0)))
 (.seq (.block 1 (.seq (.region [⟨(some 10), none, .mov, [.tm 0]⟩,
  ⟨(some 11), none, .mov, [.tm 3]⟩,
  ⟨(some 12), none, (.idxAddr 4), [.tm 10, .tm 11]⟩,
  ⟨(some 13), none, (.load true 4), [.tm 12]⟩,
  ⟨(some 14), none, (.call 50), [.tm 13]⟩,
  ⟨(some 15), none, .not, [.tm 14]⟩])
 (.cond (.tm 15) (.seq (.region [⟨(some 2), none, .mov, [.cn (.bool false)]⟩])
 .ret)
  .skip)))
 (.region [⟨(some 8), none, .mov, [.tm 3]⟩,
  ⟨(some 9), none, (.ari .add), [.tm 8, .cn (.int .i64 1)]⟩,
  ⟨(some 3), none, .mov, [.tm 9]⟩]))))))
 (.seq (.region [⟨(some 2), none, .mov, [.cn (.bool true)]⟩])
 .ret))) }
theorem v31_is : vfunc Try.prog Try.f31 = some v31 := by kernel_rfl
def v51 : VF := { ntmps := 17, res := [.tmp 2], body :=
 (.seq (.region [⟨(some 1), none, .box, [.tm 0]⟩,
  ⟨(some 2), none, .mov, [.cn (.int .i64 0)]⟩])
 (.seq (.region [⟨(some 3), none, (.fieldAddr 0), [.tm 1]⟩,
  ⟨(some 4), none, (.load false 1), [.tm 3]⟩,
  ⟨(some 5), none, (.fieldAddr 1), [.tm 1]⟩,
  ⟨(some 6), none, (.load false 1), [.tm 5]⟩,
  ⟨(some 7), none, (.ari .mul), [.tm 4, .tm 6]⟩,
  ⟨(some 8), none, (.fieldAddr 2), [.tm 1]⟩,
  ⟨(some 9), none, (.load false 1), [.tm 8]⟩,
  ⟨(some 10), none, (.fieldAddr 0), [.tm 1]⟩,
  ⟨(some 11), none, (.load false 1), [.tm 10]⟩,
  ⟨(some 12), none, (.fieldAddr 1), [.tm 1]⟩,
  ⟨(some 13), none, (.load false 1), [.tm 12]⟩,
  ⟨(some 14), none, (.ari .add), [.tm 11, .tm 13]⟩,
  ⟨(some 15), none, (.ari .mul), [.tm 9, .tm 14]⟩,
  ⟨(some 16), none, .min, [.tm 7, .tm 15]⟩,
  ⟨(some 2), none, .mov, [.tm 16]⟩])
 .ret)) }
theorem v51_is : vfunc Try.prog Try.f51 = some v51 := by kernel_rfl
def v56 : VF := { ntmps := 27, res := [.cell 4 true 2], body :=
 (.seq (.region [⟨(some 2), none, .box, [.tm 0]⟩,
  ⟨(some 4), none, (.alloc [(.int .i64 0), (.int .i64 0)]), []⟩])
 (.seq (.region [⟨(some 8), none, (.fieldAddr 0), [.tm 2]⟩,
  ⟨(some 9), none, (.load false 1), [.tm 8]⟩,
  ⟨(some 10), none, (.fieldAddr 1), [.tm 2]⟩,
  ⟨(some 11), none, (.load false 1), [.tm 10]⟩,
  ⟨(some 12), none, (.ari .mul), [.tm 9, .tm 11]⟩,
  ⟨(some 13), none, (.call 53), [.tm 12]⟩,
  ⟨(some 14), none, .mov, [.tm 1]⟩,
  ⟨(some 15), none, (.call 73), [.tm 13, .tm 14, .cn (.int .i64 1000000)]⟩,
  ⟨(some 7), none, .mov, [.tm 15]⟩,
  ⟨(some 16), none, (.ext 0), [.tm 7]⟩,
  ⟨(some 17), none, (.ext 1), [.tm 7]⟩,
  ⟨(some 5), none, (.alloc [(.int .i64 0), (.int .i64 0)]), []⟩,
  ⟨none, none, (.store 2), [.tm 5, .tm 16]⟩,
  ⟨(some 6), none, .mov, [.tm 17]⟩])
 (.seq (.draw [] [⟨⟨(some 19), none, (.load true 2), [.tm 5]⟩, []⟩,
  ⟨⟨(some 20), none, (.fieldAddr 3), [.tm 2]⟩, []⟩,
  ⟨⟨(some 21), none, (.load false 1), [.tm 20]⟩, []⟩,
  ⟨⟨(some 22), none, (.call 53), [.tm 21]⟩, []⟩,
  ⟨⟨(some 23), none, (.call 54), [.tm 19, .tm 22]⟩, []⟩,
  ⟨⟨(some 18), none, .mov, [.tm 23]⟩, []⟩,
  ⟨⟨(some 24), none, (.ext 0), [.tm 18]⟩, []⟩,
  ⟨⟨(some 25), none, (.ext 1), [.tm 18]⟩, []⟩,
  ⟨⟨none, none, (.store 2), [.tm 5, .tm 24]⟩, []⟩])
 (.seq (.region [⟨(some 26), none, (.load true 2), [.tm 5]⟩,
  ⟨none, none, (.store 2), [.tm 4, .tm 26]⟩])
 .ret)))) }
theorem v56_is : vfunc Try.prog Try.f56 = some v56 := by kernel_rfl
def v34 : VF := { ntmps := 33, res := [.cell 2 true 2], body :=
 (.seq (.region [⟨(some 1), none, .box, [.tm 0]⟩,
  ⟨(some 2), none, (.alloc [(.int .i64 0), (.int .i64 0)]), []⟩])
 (.seq (.region [⟨(some 7), none, (.build [(.int .i64 0), (.int .i64 0)] []), []⟩,
  ⟨(some 3), none, (.alloc [(.int .i64 0), (.int .i64 0)]), []⟩,
  ⟨none, none, (.store 2), [.tm 3, .tm 7]⟩])
 (.seq (.seq (.region [⟨(some 4), none, .mov, [.cn (.int .i64 0)]⟩])
 (.block 0 (.loop (.seq (.seq (.region [⟨(some 8), none, .mov, [.tm 4]⟩,
  ⟨(some 9), none, (.fieldAddr 0), [.tm 1]⟩,
  ⟨(some 10), none, (.load false 1), [.tm 9]⟩,
  ⟨(some 11), none, .len, [.tm 10]⟩,
  ⟨(some 12), none, (.cmp .lss), [.tm 8, .tm 11]⟩])
 (.cond (.tm 12) .skip
  (.exit 0)))
 (.seq (.block 1 (.seq (.region [⟨(some 16), none, (.fieldAddr 0), [.tm 1]⟩,
  ⟨(some 17), none, (.load false 1), [.tm 16]⟩,
  ⟨(some 18), none, .mov, [.tm 4]⟩,
  ⟨(some 19), none, (.idxAddr 2), [.tm 17, .tm 18]⟩,
  ⟨(some 20), none, (.fieldAddr 0), [.tm 19]⟩,
  ⟨(some 21), none, (.load false 1), [.tm 20]⟩,
  ⟨(some 22), none, (.call 53), [.tm 21]⟩,
  ⟨(some 23), none, (.call 52), [.tm 22]⟩,
  ⟨(some 15), none, .mov, [.tm 23]⟩,
  ⟨(some 24), none, (.ext 0), [.tm 15]⟩,
  ⟨(some 25), none, (.ext 1), [.tm 15]⟩,
  ⟨(some 5), none, (.alloc [(.int .i64 0), (.int .i64 0)]), []⟩,
  ⟨none, none, (.store 2), [.tm 5, .tm 24]⟩,
  ⟨(some 6), none, .mov, [.tm 25]⟩])
 (.region [⟨(some 27), none, (.load true 2), [.tm 3]⟩,
  ⟨(some 28), none, (.load true 2), [.tm 5]⟩,
  ⟨(some 29), none, (.call 54), [.tm 27, .tm 28]⟩,
  ⟨(some 26), none, .mov, [.tm 29]⟩,
  ⟨(some 30), none, (.ext 0), [.tm 26]⟩,
  ⟨(some 31), none, (.ext 1), [.tm 26]⟩,
  ⟨none, none, (.store 2), [.tm 3, .tm 30]⟩])))
 (.region [⟨(some 13), none, .mov, [.tm 4]⟩,
  ⟨(some 14), none, (.ari .add), [.tm 13, .cn (.int .i64 1)]⟩,
  ⟨(some 4), none, .mov, [.tm 14]⟩]))))))
 (.seq (.region [⟨(some 32), none, (.load true 2), [.tm 3]⟩,
  ⟨none, none, (.store 2), [.tm 2, .tm 32]⟩])
 .ret)))) }
theorem v34_is : vfunc Try.prog Try.f34 = some v34 := by kernel_rfl
def v33 : VF := { ntmps := 36, res := [.tmp 6], body :=
 (.seq (.region [⟨(some 3), none, .box, [.tm 0]⟩,
  ⟨(some 6), none, .mov, [.cn (.int .i64 0)]⟩])
 (.seq (.region [⟨(some 7), none, .mov, [.cn (.int .i64 0)]⟩])
 (.seq (.seq (.region [⟨(some 8), none, .mov, [.cn (.int .i64 0)]⟩])
 (.block 0 (.loop (.seq (.seq (.region [⟨(some 9), none, .mov, [.tm 8]⟩,
  ⟨(some 10), none, .mov, [.tm 1]⟩,
  ⟨(some 11), none, .len, [.tm 10]⟩,
  ⟨(some 12), none, (.cmp .lss), [.tm 9, .tm 11]⟩])
 (.cond (.tm 12) .skip
  (.exit 0)))
 (.seq (.block 1 (.region [⟨(some 15), none, .mov, [.tm 7]⟩,
  ⟨(some 16), none, .mov, [.tm 1]⟩,
  ⟨(some 17), none, .mov, [.tm 8]⟩,
  ⟨(some 18), none, (.idxAddr 4), [.tm 16, .tm 17]⟩,
  ⟨(some 19), none, (.load true 4), [.tm 18]⟩,
  ⟨(some 20), none, (.call 51), [.tm 19]⟩,
  ⟨(some 21), none, (.ari .add), [.tm 15, .tm 20]⟩,
  ⟨(some 7), none, .mov, [.tm 21]⟩]))
 (.region [⟨(some 13), none, .mov, [.tm 8]⟩,
  ⟨(some 14), none, (.ari .add), [.tm 13, .cn (.int .i64 1)]⟩,
  ⟨(some 8), none, .mov, [.tm 14]⟩]))))))
 (.seq (.seq (.region [⟨(some 22), none, .mov, [.tm 7]⟩,
  ⟨(some 23), none, (.ari .mul), [.cn (.int .i64 100), .tm 22]⟩,
  ⟨(some 24), none, .mov, [.tm 2]⟩,
  ⟨(some 25), none, (.fieldAddr 1), [.tm 3]⟩,
  ⟨(some 26), none, (.load false 1), [.tm 25]⟩,
  ⟨(some 27), none, (.ari .mul), [.tm 24, .tm 26]⟩,
  ⟨(some 28), none, (.cmp .geq), [.tm 23, .tm 27]⟩])
 (.cond (.tm 28) (.seq (.region [⟨(some 6), none, .mov, [.cn (.int .i64 1)]⟩])
 .ret)
  .skip))
 (.seq (.seq (.region [⟨(some 29), none, .mov, [.tm 7]⟩,
  ⟨(some 30), none, (.ari .mul), [.cn (.int .i64 100), .tm 29]⟩,
  ⟨(some 31), none, .mov, [.tm 2]⟩,
  ⟨(some 32), none, (.fieldAddr 0), [.tm 3]⟩,
  ⟨(some 33), none, (.load false 1), [.tm 32]⟩,
  ⟨(some 34), none, (.ari .mul), [.tm 31, .tm 33]⟩,
  ⟨(some 35), none, (.cmp .lss), [.tm 30, .tm 34]⟩])
 (.cond (.tm 35) (.seq (.region [⟨(some 6), none, .mov, [.cn (.int .i64 (-1))]⟩])
 .ret)
  .skip))
 (.seq (.region [⟨(some 6), none, .mov, [.cn (.int .i64 0)]⟩])
 .ret)))))) }
theorem v33_is : vfunc Try.prog Try.f33 = some v33 := by kernel_rfl
def v9 : VF := { ntmps := 35, res := [.tmp 6, .tmp 7], body :=
 (.seq (.region [⟨(some 3), none, .box, [.tm 0]⟩,
  ⟨(some 6), none, .mov, [.cn (.int .i64 0)]⟩,
  ⟨(some 7), none, .mov, [.cn (.int .i64 0)]⟩])
 (.seq (.seq (.region [⟨(some 8), none, (.fieldAddr 0), [.tm 3]⟩,
  ⟨(some 9), none, (.load false 1), [.tm 8]⟩,
  ⟨(some 10), none, .len, [.tm 9]⟩,
  ⟨(some 11), none, (.cmp .gtr), [.tm 10, .cn (.int .i64 24)]⟩,
  ⟨(some 12), none, .mov, [.tm 11]⟩,
  ⟨(some 13), (some (12, false)), .mov, [.tm 1]⟩,
  ⟨(some 14), (some (12, false)), .len, [.tm 13]⟩,
  ⟨(some 15), (some (12, false)), (.cmp .gtr), [.tm 14, .cn (.int .i64 40)]⟩,
  ⟨(some 16), none, .or, [.tm 12, .tm 15]⟩])
 (.cond (.tm 16) (.seq (.region [⟨(some 6), none, .mov, [.cn (.int .i64 0)]⟩,
  ⟨(some 7), none, .mov, [.cn (.int .i64 3)]⟩])
 .ret)
  .skip))
 (.seq (.seq (.region [⟨(some 17), none, (.load true 1), [.tm 3]⟩,
  ⟨(some 18), none, (.call 30), [.tm 17]⟩,
  ⟨(some 19), none, .not, [.tm 18]⟩,
  ⟨(some 20), none, .mov, [.tm 19]⟩,
  ⟨(some 21), (some (20, false)), .mov, [.tm 1]⟩,
  ⟨(some 22), (some (20, false)), (.call 31), [.tm 21]⟩,
  ⟨(some 23), (some (20, false)), .not, [.tm 22]⟩,
  ⟨(some 24), none, .or, [.tm 20, .tm 23]⟩,
  ⟨(some 25), none, .mov, [.tm 24]⟩,
  ⟨(some 26), (some (25, false)), .mov, [.tm 2]⟩,
  ⟨(some 27), (some (25, false)), (.call 32), [.tm 26, .cn (.int .i64 10), .cn (.int .i64 1000)]⟩,
  ⟨(some 28), (some (25, false)), .not, [.tm 27]⟩,
  ⟨(some 29), none, .or, [.tm 25, .tm 28]⟩])
 (.cond (.tm 29) (.seq (.region [⟨(some 6), none, .mov, [.cn (.int .i64 0)]⟩,
  ⟨(some 7), none, .mov, [.cn (.int .i64 2)]⟩])
 .ret)
  .skip))
 (.seq (.region [⟨(some 30), none, (.load true 1), [.tm 3]⟩,
  ⟨(some 31), none, (.call 34), [.tm 30]⟩,
  ⟨(some 32), none, .mov, [.tm 1]⟩,
  ⟨(some 33), none, .mov, [.tm 2]⟩,
  ⟨(some 34), none, (.call 33), [.tm 31, .tm 32, .tm 33]⟩,
  ⟨(some 6), none, .mov, [.tm 34]⟩,
  ⟨(some 7), none, .mov, [.cn (.int .i64 0)]⟩])
 .ret)))) }
theorem v9_is : vfunc Try.prog Try.f9 = some v9 := by kernel_rfl
def frmC : Ctr := { alias := false, of := fun l => match l with
  | [.int .i64 n, .int .i64 lo, .int .i64 hi] => .fin (.bool (!outN n lo hi)) []
  | _ => noC }
def rtoeC : Ctr := { alias := false, of := fun l => match l with
  | [.agg [.int .i64 x, .int .i64 y]] => .fin (.bool (!toeB (x, y))) []
  | _ => noC }
def rpalC : Ctr := { alias := false, of := fun l => match l with
  | [.agg [.int .i64 w, .int .i64 l, .int .i64 t, .int .i64 s]] => .fin (.bool (!palB ⟨w, l, t, s⟩)) []
  | _ => noC }
theorem nout {n lo hi : Int} : (!outN n lo hi) = (decide (lo ≤ n) && decide (n ≤ hi)) := by
  unfold outN
  rw [Bool.not_or, ← decide_not, ← decide_not]
  congr 1 <;> rw [decide_eq_decide] <;> omega
theorem frm_ok : frmC.ok Try.prog 32 := by
  refine contract Try.func32 v32_is E0_ok 100 frmC fun args k h => ⟨args, ?_⟩
  simp only [frmC] at h
  split at h
  · refine ⟨by simp [leL, le], ?_⟩
    dsimp only [v32, go_sem, Option.bind, Option.map, List.append_nil, Nat.beq, List.cons_append, List.nil_append, List.append_eq, List.map_cons, List.map_nil, ite_self, reduceIte]
    simp only [true_and, and_true, imp_self, implies_true, decide_eq_true_eq, decide_eq_false_iff_not, Nat.reduceAdd, Nat.reduceLeDiff, Bool.not_not, reduceCtorEq, false_imp_iff, Bool.not_eq_true', Bool.not_eq_false', Bool.false_eq_true, and_self, forall_const, ne_eq, not_false_eq_true, Nat.reduceEqDiff]
    have h : k _ [] := h
    rw [nout] at h
    exact ans_bool h
  · exact h.1.elim
def F1 : Env := { ct := fun n => match n with | 32 => some frmC | _ => none, fn := fun _ => none, meth := fun _ _ => none }
theorem F1_ct32 : F1.ct 32 = some frmC := rfl
theorem F1_ok : EnvOk Try.prog F1 := by
  refine ⟨fun f c h => ?_, fun f vf h => ?_, (fun _ _ _ h => by cases h), by kernel_rfl⟩
  · simp only [F1] at h
    split at h
    · cases h; exact ⟨frm_ok, Try.f32, Try.func32, by kernel_rfl, by kernel_rfl⟩
    · cases h
  · cases h

theorem rtoe_ok : rtoeC.ok Try.prog 49 := by
  refine contract Try.func49 v49_is F1_ok 100 rtoeC fun args k h => ⟨args, ?_⟩
  simp only [rtoeC] at h
  split at h
  · refine ⟨by simp [leL, le], ?_⟩
    dsimp only [v49, go_sem, Option.bind, Option.map, List.append_nil, Nat.beq, List.cons_append, List.nil_append, List.append_eq, List.map_cons, List.map_nil, ite_self, reduceIte]
    simp only [true_and, and_true, imp_self, implies_true, decide_eq_true_eq, decide_eq_false_iff_not, Nat.reduceAdd, Nat.reduceLeDiff, Bool.not_not, reduceCtorEq, false_imp_iff, Bool.not_eq_true', Bool.not_eq_false', Bool.false_eq_true, and_self, forall_const, ne_eq, not_false_eq_true, Nat.reduceEqDiff]
    have h : k _ [] := h
    rw [toeB, Bool.not_or, nout, nout, ← Bool.and_assoc] at h
    exact ans_bool h
  · exact h.1.elim
theorem rpal_ok : rpalC.ok Try.prog 50 := by
  refine contract Try.func50 v50_is F1_ok 100 rpalC fun args k h => ⟨args, ?_⟩
  simp only [rpalC] at h
  split at h
  · refine ⟨by simp [leL, le], ?_⟩
    dsimp only [v50, F1_ct32, frmC, go_sem, Option.bind, Option.map, List.append_nil, Nat.beq, List.cons_append, List.nil_append, List.append_eq, List.map_cons, List.map_nil, ite_self, reduceIte]
    simp only [true_and, and_true, imp_self, implies_true, decide_eq_true_eq, decide_eq_false_iff_not, Nat.reduceAdd, Nat.reduceLeDiff, Bool.not_not, reduceCtorEq, false_imp_iff, Bool.not_eq_true', Bool.not_eq_false', Bool.false_eq_true, and_self, forall_const, ne_eq, not_false_eq_true, Nat.reduceEqDiff]
    have h : k _ [] := h
    rw [palB, Bool.not_or, Bool.not_or, Bool.not_or] at h
    exact ans_bool h
  · exact h.1.elim
theorem rone_ok : oneC.ok Try.prog 53 := by
  refine contract Try.func53 v53_is F1_ok 100 oneC fun args k h => ⟨args, ?_⟩
  simp only [oneC] at h
  split at h
  · refine ⟨by simp [leL, le], ?_⟩
    dsimp only [v53, go_sem, Option.bind, Option.map, List.append_nil, Nat.beq, List.cons_append, List.nil_append, List.append_eq, List.map_cons, List.map_nil, ite_self, reduceIte]
    simp only [true_and, and_true, imp_self, implies_true, decide_eq_true_eq, decide_eq_false_iff_not, Nat.reduceAdd, Nat.reduceLeDiff, Bool.not_not, reduceCtorEq, false_imp_iff, Bool.not_eq_true', Bool.not_eq_false', Bool.false_eq_true, and_self, forall_const, ne_eq, not_false_eq_true, Nat.reduceEqDiff]
    exact ans_le (show k _ [] from h) (by simp [expo, view, viewL, leL, le]) (fun _ => by simp [freshS, freshL])
  · exact h.1.elim

def toesC : Ctr := { alias := false, of := fun l => match l with
  | [.agg [.vs _ _ n sz get]] => .ex (List Iv) fun l => .pre (lsP 2 enc2 n sz get l ∧ l.length ≤ 1000000000000) (.fin (.bool (!(l.any toeB))) [])
  | _ => noC }
def palsC : Ctr := { alias := false, of := fun l => match l with
  | [.vs _ _ n sz get] => .ex (List Plt) fun l => .pre (lsP 4 encP n sz get l ∧ l.length ≤ 1000000000000) (.fin (.bool (!(l.any palB))) [])
  | _ => noC }
def F2 : Env := { ct := fun n => match n with | 32 => some frmC | 49 => some rtoeC | 50 => some rpalC | 53 => some oneC | 73 => some sclC | 54 => some addC | 52 => some discC | _ => none, fn := fun _ => none, meth := fun _ _ => none }
theorem F2_ct49 : F2.ct 49 = some rtoeC := rfl
theorem F2_ct50 : F2.ct 50 = some rpalC := rfl
theorem F2_ct53 : F2.ct 53 = some oneC := rfl
theorem F2_ct73 : F2.ct 73 = some sclC := rfl
theorem F2_ct54 : F2.ct 54 = some addC := rfl
theorem F2_ct52 : F2.ct 52 = some discC := rfl
theorem F2_ok : EnvOk Try.prog F2 := by
  refine ⟨fun f c h => ?_, fun f vf h => ?_, (fun _ _ _ h => by cases h), by kernel_rfl⟩
  · simp only [F2] at h
    split at h
    · cases h; exact ⟨frm_ok, Try.f32, Try.func32, by kernel_rfl, by kernel_rfl⟩
    · cases h; exact ⟨rtoe_ok, Try.f49, Try.func49, by kernel_rfl, by kernel_rfl⟩
    · cases h; exact ⟨rpal_ok, Try.f50, Try.func50, by kernel_rfl, by kernel_rfl⟩
    · cases h; exact ⟨rone_ok, Try.f53, Try.func53, by kernel_rfl, by kernel_rfl⟩
    · cases h; exact ⟨rscl_ok, Try.f73, Try.func73, by kernel_rfl, by kernel_rfl⟩
    · cases h; exact ⟨radd_ok, Try.f54, Try.func54, by kernel_rfl, by kernel_rfl⟩
    · cases h; exact ⟨rdisc_ok, Try.f52, Try.func52, by kernel_rfl, by kernel_rfl⟩
    · cases h
  · cases h

theorem toes_ok : toesC.ok Try.prog 30 := by
  refine contract Try.func30 v30_is F2_ok 200 toesC fun args k h => ?_
  simp only [toesC] at h
  split at h
  · rename_i t z n sz get
    obtain ⟨l, ⟨⟨rfl, rfl, hg⟩, hl⟩, h⟩ := h
    refine ⟨[.agg [.vs t z l.length 2 (fun k => enc2 (l.getD k default))]], ⟨by simpa [le, leL] using hg, trivial⟩, ?_⟩
    have h : k (.bool (!(l.any toeB))) [] := h
    dsimp only [v30, enc2, go_sem, Option.bind, Option.map, List.append_nil, Nat.beq, List.cons_append, List.nil_append, List.append_eq, List.map_cons, List.map_nil, ite_self, reduceIte]
    simp only [true_and, and_true, imp_self, implies_true, decide_eq_true_eq, decide_eq_false_iff_not, Nat.reduceAdd, Nat.reduceLeDiff, Bool.not_not, reduceCtorEq, false_imp_iff, Bool.not_eq_true', Bool.not_eq_false', Bool.false_eq_true, and_self, forall_const, ne_eq, not_false_eq_true, Nat.reduceEqDiff]
    obtain ⟨F, hF⟩ : ∃ F, F = toeB := ⟨_, rfl⟩
    rw [← hF] at h
    refine Loop.keep [1, 0] Nat (fun i => [(3, .int .i64 i)]) (fun _ => []) [] (fun i => i ≤ l.length ∧ ∀ j, j < i → F (l.getD j default) = false) (fun i => l.length - i) ?_ ?_
    · refine ⟨0, ⟨Nat.zero_le _, fun j h => by omega⟩, ?_⟩
      dsimp only [go_sem, Option.bind, Option.map, List.append_nil, Nat.beq, List.cons_append, List.nil_append, List.append_eq, List.map_cons, List.map_nil, ite_self, reduceIte]
      simp only [leS_mk, leL_cons, leL_nil, le_junk, le_int, le_bool, le_nil, leLL_nil, leLL_cons, leH_cons, leH_nil, leH1_box, leH1_own, leH1_gone, le_vs, le_agg, le_tup, le_ptr, le_own, le_xp, le_fn, le_opt, le_val, le_elem, le_nil_own, le_nil_vs, leH_ghost, leL_chunk, leXL_id, bnd_int, bnd_bool, bnd_val, bnd_nil, bnd_junk, bnd_vs, bnd_xp, bnd_agg, bnd_tup, bnd_ptr, bnd_own, bnd_elem, bnd_fn, bnd_iface, bnd_opt, bndL_nil, bndL_cons, lenH_cons, lenH_nil, imp_self, implies_true, true_and, and_true]
      simp
    · rintro i ⟨hi, ha⟩
      dsimp only [F2_ct49, rtoeC, enc2, Int.toNat_natCast, go_sem, Option.bind, Option.map, List.append_nil, Nat.beq, List.cons_append, List.nil_append, List.append_eq, List.map_cons, List.map_nil, ite_self, reduceIte]
      simp only [true_and, and_true, imp_self, implies_true, decide_eq_true_eq, decide_eq_false_iff_not, Nat.reduceAdd, Nat.reduceLeDiff, Bool.not_not, reduceCtorEq, false_imp_iff, Bool.not_eq_true', Bool.not_eq_false', Bool.false_eq_true, and_self, forall_const, ne_eq, not_false_eq_true, Nat.reduceEqDiff]
      simp only [show toeB (((l.getD i default).1, (l.getD i default).2)) = F (l.getD i default) by rw [hF]]
      refine ⟨fun hlt => ⟨⟨by omega, hlt⟩, fun hb => ?_, fun hb => ?_⟩, fun hge => ?_⟩
      · have e : l.any F = true := List.any_eq_true.2 ⟨_, getD_mem (by omega : i < l.length), hb⟩
        exact ans_bool (by rw [e] at h; exact h)
      · refine ⟨i + 1, ⟨by omega, fun j hj => ?_⟩, by omega, ?_⟩
        · rcases Nat.lt_or_ge j i with h' | h'
          · exact ha j h'
          · obtain rfl : j = i := by omega
            exact hb
        · simp only [w_succ (i := i) (n := l.length) (by omega) (by omega), leS_mk, leL_cons, leL_nil, le_junk, le_int, le_bool, le_nil, leLL_nil, leLL_cons, leH_cons, leH_nil, leH1_box, leH1_own, leH1_gone, le_vs, le_agg, le_tup, le_ptr, le_own, le_xp, le_fn, le_opt, le_val, le_elem, le_nil_own, le_nil_vs, leH_ghost, leL_chunk, leXL_id, bnd_int, bnd_bool, bnd_val, bnd_nil, bnd_junk, bnd_vs, bnd_xp, bnd_agg, bnd_tup, bnd_ptr, bnd_own, bnd_elem, bnd_fn, bnd_iface, bnd_opt, bndL_nil, bndL_cons, lenH_cons, lenH_nil, imp_self, implies_true, true_and, and_true] <;> simp
      · have e : l.any F = false := List.any_eq_false.2 fun x hx => by
          obtain ⟨j, hj, rfl⟩ := mem_getD hx
          rw [ha j (by omega)]; simp
        exact ans_bool (by rw [e] at h; exact h)
  · exact h.1.elim
theorem pals_ok : palsC.ok Try.prog 31 := by
  refine contract Try.func31 v31_is F2_ok 200 palsC fun args k h => ?_
  simp only [palsC] at h
  split at h
  · rename_i t z n sz get
    obtain ⟨l, ⟨⟨rfl, rfl, hg⟩, hl⟩, h⟩ := h
    refine ⟨[.vs t z l.length 4 (fun k => encP (l.getD k default))], ⟨by simpa [le, leL] using hg, trivial⟩, ?_⟩
    have h : k (.bool (!(l.any palB))) [] := h
    dsimp only [v31, encP, go_sem, Option.bind, Option.map, List.append_nil, Nat.beq, List.cons_append, List.nil_append, List.append_eq, List.map_cons, List.map_nil, ite_self, reduceIte]
    simp only [true_and, and_true, imp_self, implies_true, decide_eq_true_eq, decide_eq_false_iff_not, Nat.reduceAdd, Nat.reduceLeDiff, Bool.not_not, reduceCtorEq, false_imp_iff, Bool.not_eq_true', Bool.not_eq_false', Bool.false_eq_true, and_self, forall_const, ne_eq, not_false_eq_true, Nat.reduceEqDiff]
    obtain ⟨F, hF⟩ : ∃ F, F = palB := ⟨_, rfl⟩
    rw [← hF] at h
    refine Loop.keep [0, 1] Nat (fun i => [(3, .int .i64 i)]) (fun _ => []) [] (fun i => i ≤ l.length ∧ ∀ j, j < i → F (l.getD j default) = false) (fun i => l.length - i) ?_ ?_
    · refine ⟨0, ⟨Nat.zero_le _, fun j h => by omega⟩, ?_⟩
      dsimp only [go_sem, Option.bind, Option.map, List.append_nil, Nat.beq, List.cons_append, List.nil_append, List.append_eq, List.map_cons, List.map_nil, ite_self, reduceIte]
      simp only [leS_mk, leL_cons, leL_nil, le_junk, le_int, le_bool, le_nil, leLL_nil, leLL_cons, leH_cons, leH_nil, leH1_box, leH1_own, leH1_gone, le_vs, le_agg, le_tup, le_ptr, le_own, le_xp, le_fn, le_opt, le_val, le_elem, le_nil_own, le_nil_vs, leH_ghost, leL_chunk, leXL_id, bnd_int, bnd_bool, bnd_val, bnd_nil, bnd_junk, bnd_vs, bnd_xp, bnd_agg, bnd_tup, bnd_ptr, bnd_own, bnd_elem, bnd_fn, bnd_iface, bnd_opt, bndL_nil, bndL_cons, lenH_cons, lenH_nil, imp_self, implies_true, true_and, and_true]
      simp
    · rintro i ⟨hi, ha⟩
      dsimp only [F2_ct50, rpalC, encP, Int.toNat_natCast, go_sem, Option.bind, Option.map, List.append_nil, Nat.beq, List.cons_append, List.nil_append, List.append_eq, List.map_cons, List.map_nil, ite_self, reduceIte]
      simp only [true_and, and_true, imp_self, implies_true, decide_eq_true_eq, decide_eq_false_iff_not, Nat.reduceAdd, Nat.reduceLeDiff, Bool.not_not, reduceCtorEq, false_imp_iff, Bool.not_eq_true', Bool.not_eq_false', Bool.false_eq_true, and_self, forall_const, ne_eq, not_false_eq_true, Nat.reduceEqDiff]
      simp only [show palB ⟨(l.getD i default).w, (l.getD i default).l, (l.getD i default).t, (l.getD i default).s⟩ = F (l.getD i default) by rw [hF]]
      refine ⟨fun hlt => ⟨⟨by omega, hlt⟩, fun hb => ?_, fun hb => ?_⟩, fun hge => ?_⟩
      · have e : l.any F = true := List.any_eq_true.2 ⟨_, getD_mem (by omega : i < l.length), hb⟩
        exact ans_bool (by rw [e] at h; exact h)
      · refine ⟨i + 1, ⟨by omega, fun j hj => ?_⟩, by omega, ?_⟩
        · rcases Nat.lt_or_ge j i with h' | h'
          · exact ha j h'
          · obtain rfl : j = i := by omega
            exact hb
        · simp only [w_succ (i := i) (n := l.length) (by omega) (by omega), leS_mk, leL_cons, leL_nil, le_junk, le_int, le_bool, le_nil, leLL_nil, leLL_cons, leH_cons, leH_nil, leH1_box, leH1_own, leH1_gone, le_vs, le_agg, le_tup, le_ptr, le_own, le_xp, le_fn, le_opt, le_val, le_elem, le_nil_own, le_nil_vs, leH_ghost, leL_chunk, leXL_id, bnd_int, bnd_bool, bnd_val, bnd_nil, bnd_junk, bnd_vs, bnd_xp, bnd_agg, bnd_tup, bnd_ptr, bnd_own, bnd_elem, bnd_fn, bnd_iface, bnd_opt, bndL_nil, bndL_cons, lenH_cons, lenH_nil, imp_self, implies_true, true_and, and_true] <;> simp
      · have e : l.any F = false := List.any_eq_false.2 fun x hx => by
          obtain ⟨j, hj, rfl⟩ := mem_getD hx
          rw [ha j (by omega)]; simp
        exact ans_bool (by rw [e] at h; exact h)
  · exact h.1.elim
theorem ropen_ok : openC.ok Try.prog 51 := by
  refine contract Try.func51 v51_is F2_ok 100 openC fun args k h => ⟨args, ?_⟩
  simp only [openC] at h
  split at h
  · rename_i w l t s
    obtain ⟨hp, h⟩ := h
    refine ⟨by simp [leL, le], ?_⟩
    obtain ⟨h1, h2, h3, h4⟩ := pal_rng hp
    obtain ⟨_, _, h5, h6⟩ := open_rng hp
    dsimp only at h1 h2 h3 h4 h5 h6
    have h : k (.int .i64 (min (w * l) (t * (w + l)))) [] := h
    dsimp only [v51, go_sem, Option.bind, Option.map, List.append_nil, Nat.beq, List.cons_append, List.nil_append, List.append_eq, List.map_cons, List.map_nil, ite_self, reduceIte]
    simp only [true_and, and_true, imp_self, implies_true, decide_eq_true_eq, decide_eq_false_iff_not, Nat.reduceAdd, Nat.reduceLeDiff, Bool.not_not, reduceCtorEq, false_imp_iff, Bool.not_eq_true', Bool.not_eq_false', Bool.false_eq_true, and_self, forall_const, ne_eq, not_false_eq_true, Nat.reduceEqDiff]
    rw [w6_raw (x := w + l) (by omega) (by omega), w6_raw (x := w * l) (by omega) (by omega), w6_raw (x := t * (w + l)) (by omega) (by omega)]
    exact ans_int h
  · exact h.1.elim
theorem add_in {a b : Iv} (h1 : 0 ≤ a.1 ∧ a.1 ≤ a.2 ∧ a.2 ≤ 100000000000000) (h2 : 0 ≤ b.1 ∧ b.1 ≤ b.2 ∧ b.2 ≤ 1000000000000) : addF a b = ((a.1 + b.1, a.2 + b.2), 0) := by
  have h5 : ivE [a, b] = 0 := by
    unfold ivE
    rw [if_pos (by simp [numOk]; omega), if_pos (by simp; omega)]
  unfold addF fitF
  rw [if_neg (by rw [h5]; simp), if_pos (by rw [Bool.and_eq_true, numOk_iff, numOk_iff]; omega)]
theorem rforce_ok : forceC.ok Try.prog 56 := by
  refine contract Try.func56 v56_is F2_ok 200 forceC fun args k h => ⟨args, ?_⟩
  simp only [forceC, forC] at h
  split at h
  · rename_i w l t s pr
    obtain ⟨⟨hp, hp1, hp2⟩, h⟩ := h
    refine ⟨by simp [leL, le], ?_⟩
    obtain ⟨h1, h2, h3, h4⟩ := pal_rng hp
    obtain ⟨_, _, h5, h6⟩ := open_rng hp
    obtain ⟨f1, f2, f3, f4⟩ := force_rng hp hp1 hp2
    dsimp only at h1 h2 h3 h4 h5 h6
    unfold sclI at f1 f2 f3
    dsimp only at f1 f2 f3
    dsimp only [v56, F2_ct53, F2_ct73, F2_ct54, oneC, sclC, addC, iv2C, enc2, go_sem, Option.bind, Option.map, List.append_nil, Nat.beq, List.cons_append, List.nil_append, List.append_eq, List.map_cons, List.map_nil, ite_self, reduceIte]
    simp only [true_and, and_true, imp_self, implies_true, decide_eq_true_eq, decide_eq_false_iff_not, Nat.reduceAdd, Nat.reduceLeDiff, Bool.not_not, reduceCtorEq, false_imp_iff, Bool.not_eq_true', Bool.not_eq_false', Bool.false_eq_true, and_self, forall_const, ne_eq, not_false_eq_true, Nat.reduceEqDiff]
    rw [w6_raw (x := w * l) (by omega) (by omega)]
    have e := add_in (a := (sclF (w * l, w * l) pr 1000000).1) (b := (s, s)) ⟨f1.1, f3, by omega⟩ ⟨h4.1, Int.le_refl _, by show s ≤ _; omega⟩
    have h : k (.agg (enc2 (forceF ⟨w, l, t, s⟩ pr))) [] := h
    have e2 : (addF (sclF (w * l, w * l) pr 1000000).1 (s, s)).1 = forceF ⟨w, l, t, s⟩ pr := by rw [e]; rfl
    rw [← e2] at h
    exact ⟨by decide, by decide, by decide, by decide, ans_p2 (r := (addF (sclF (w * l, w * l) pr 1000000).1 (s, s)).1) h⟩
  · exact h.1.elim
theorem rarea_ok : areaC.ok Try.prog 34 := by
  refine contract Try.func34 v34_is F2_ok 200 areaC fun args k h => ?_
  simp only [areaC] at h
  split at h
  · rename_i t z n sz get
    obtain ⟨l, ⟨⟨rfl, rfl, hg⟩, hl, hv⟩, h⟩ := h
    refine ⟨[.agg [.vs t z l.length 2 (fun k => enc2 (l.getD k default))]], ⟨by simpa [le, leL] using hg, trivial⟩, ?_⟩
    have h : k (.agg (enc2 (areaF l))) [] := h
    dsimp only [v34, enc2, go_sem, Option.bind, Option.map, List.append_nil, Nat.beq, List.cons_append, List.nil_append, List.append_eq, List.map_cons, List.map_nil, ite_self, reduceIte]
    simp only [true_and, and_true, imp_self, implies_true, decide_eq_true_eq, decide_eq_false_iff_not, Nat.reduceAdd, Nat.reduceLeDiff, Bool.not_not, reduceCtorEq, false_imp_iff, Bool.not_eq_true', Bool.not_eq_false', Bool.false_eq_true, and_self, forall_const, ne_eq, not_false_eq_true, Nat.reduceEqDiff]
    refine Loop.keep [1, 0, 0] Nat (fun i => [(4, .int .i64 i)]) (fun i => [(2, .box (enc2 (areaF (l.take i))))]) [] (fun i => i ≤ l.length) (fun i => l.length - i) ?_ ?_
    · refine ⟨0, Nat.zero_le _, ?_⟩
      dsimp only [enc2, go_sem, Option.bind, Option.map, List.append_nil, Nat.beq, List.cons_append, List.nil_append, List.append_eq, List.map_cons, List.map_nil, ite_self, reduceIte]
      simp only [leS_mk, leL_cons, leL_nil, le_junk, le_int, le_bool, le_nil, leLL_nil, leLL_cons, leH_cons, leH_nil, leH1_box, leH1_own, leH1_gone, le_vs, le_agg, le_tup, le_ptr, le_own, le_xp, le_fn, le_opt, le_val, le_elem, le_nil_own, le_nil_vs, leH_ghost, leL_chunk, leXL_id, bnd_int, bnd_bool, bnd_val, bnd_nil, bnd_junk, bnd_vs, bnd_xp, bnd_agg, bnd_tup, bnd_ptr, bnd_own, bnd_elem, bnd_fn, bnd_iface, bnd_opt, bndL_nil, bndL_cons, lenH_cons, lenH_nil, imp_self, implies_true, true_and, and_true] <;> simp [areaF]
    · rintro i hi
      dsimp only [F2_ct53, F2_ct52, F2_ct54, oneC, discC, ivoC, addC, iv2C, enc2, Int.toNat_natCast, go_sem, Option.bind, Option.map, List.append_nil, Nat.beq, List.cons_append, List.nil_append, List.append_eq, List.map_cons, List.map_nil, ite_self, reduceIte]
      simp only [true_and, and_true, imp_self, implies_true, decide_eq_true_eq, decide_eq_false_iff_not, Nat.reduceAdd, Nat.reduceLeDiff, Bool.not_not, reduceCtorEq, false_imp_iff, Bool.not_eq_true', Bool.not_eq_false', Bool.false_eq_true, and_self, forall_const, ne_eq, not_false_eq_true, Nat.reduceEqDiff]
      refine ⟨fun hlt => ?_, fun hge => ?_⟩
      · have hi' : i < l.length := by omega
        have r1 := area_rng (l := l) hi hv
        have ht := toe_rng (hv _ (getD_mem hi'))
        have hd := discI_rng (b := (l.getD i default).1) (by omega) (by omega)
        have hd2 := discI_le (b := (l.getD i default).1) (by omega) (by omega)
        have e := add_in (a := areaF (l.take i)) (b := discI (l.getD i default).1) ⟨r1.1, r1.2.2.2.2, by omega⟩ ⟨hd.1, hd2, by omega⟩
        refine ⟨⟨by omega, hlt⟩, by decide, by decide, by decide, by decide, i + 1, by omega, by omega, ?_⟩
        have e' : addF ((areaF (l.take i)).1, (areaF (l.take i)).2) ((discF ((l.getD i default).1, (l.getD i default).1)).1.1, (discF ((l.getD i default).1, (l.getD i default).1)).1.2) = ((((areaF (l.take i)).1 + (discI (l.getD i default).1).1, (areaF (l.take i)).2 + (discI (l.getD i default).1).2)), 0) := e
        simp only [w_succ (i := i) (n := l.length) (by omega) (by omega), e', area_take hi', leS_mk, leL_cons, leL_nil, le_junk, le_int, le_bool, le_nil, leLL_nil, leLL_cons, leH_cons, leH_nil, leH1_box, leH1_own, leH1_gone, le_vs, le_agg, le_tup, le_ptr, le_own, le_xp, le_fn, le_opt, le_val, le_elem, le_nil_own, le_nil_vs, leH_ghost, leL_chunk, leXL_id, bnd_int, bnd_bool, bnd_val, bnd_nil, bnd_junk, bnd_vs, bnd_xp, bnd_agg, bnd_tup, bnd_ptr, bnd_own, bnd_elem, bnd_fn, bnd_iface, bnd_opt, bndL_nil, bndL_cons, lenH_cons, lenH_nil, imp_self, implies_true, true_and, and_true] <;> simp
      · rw [take_full (by omega)]
        exact ans_p2 h
  · exact h.1.elim
def enoughC : Ctr := { alias := false, of := fun l => match l with
  | [.agg [.int .i64 x, .int .i64 y], .vs _ _ n sz get, .int .i64 per] => .ex (List Plt) fun l => .pre (lsP 4 encP n sz get l ∧ l.length ≤ 100 ∧ (∀ p ∈ l, palB p = false) ∧ (0 ≤ x ∧ x ≤ 1000000000000) ∧ (0 ≤ y ∧ y ≤ 1000000000000) ∧ 10 ≤ per ∧ per ≤ 1000) (.fin (.int .i64 (cmpF (x, y) (sumO l) per)) [])
  | _ => noC }
def F3 : Env := { ct := fun n => match n with | 51 => some openC | _ => none, fn := fun _ => none, meth := fun _ _ => none }
theorem F3_ct51 : F3.ct 51 = some openC := rfl
theorem F3_ok : EnvOk Try.prog F3 := by
  refine ⟨fun f c h => ?_, fun f vf h => ?_, (fun _ _ _ h => by cases h), by kernel_rfl⟩
  · simp only [F3] at h
    split at h
    · cases h; exact ⟨ropen_ok, Try.f51, Try.func51, by kernel_rfl, by kernel_rfl⟩
    · cases h
  · cases h

theorem renough_ok : enoughC.ok Try.prog 33 := by
  refine contract Try.func33 v33_is F3_ok 200 enoughC fun args k h => ?_
  simp only [enoughC] at h
  split at h
  · rename_i x y t z n sz get per
    obtain ⟨l, ⟨⟨rfl, rfl, hg⟩, hl, hv, ⟨h1, h2⟩, ⟨h3, h4⟩, h7, h8⟩, h⟩ := h
    refine ⟨[.agg [.int .i64 x, .int .i64 y], .vs t z l.length 4 (fun k => encP (l.getD k default)), .int .i64 per], ⟨by simp [le, leL], by simpa [le, leL] using hg, by simp [le], trivial⟩, ?_⟩
    have h : k (.int .i64 (cmpF (x, y) (sumO l) per)) [] := h
    dsimp only [v33, encP, go_sem, Option.bind, Option.map, List.append_nil, Nat.beq, List.cons_append, List.nil_append, List.append_eq, List.map_cons, List.map_nil, ite_self, reduceIte]
    simp only [true_and, and_true, imp_self, implies_true, decide_eq_true_eq, decide_eq_false_iff_not, Nat.reduceAdd, Nat.reduceLeDiff, Bool.not_not, reduceCtorEq, false_imp_iff, Bool.not_eq_true', Bool.not_eq_false', Bool.false_eq_true, and_self, forall_const, ne_eq, not_false_eq_true, Nat.reduceEqDiff]
    refine Loop.keep [1, 0, 0, 2] Nat (fun i => [(7, .int .i64 (sumO (l.take i))), (8, .int .i64 i)]) (fun i => []) [] (fun i => i ≤ l.length) (fun i => l.length - i) ?_ ?_
    · refine ⟨0, Nat.zero_le _, ?_⟩
      dsimp only [go_sem, Option.bind, Option.map, List.append_nil, Nat.beq, List.cons_append, List.nil_append, List.append_eq, List.map_cons, List.map_nil, ite_self, reduceIte]
      simp only [leS_mk, leL_cons, leL_nil, le_junk, le_int, le_bool, le_nil, leLL_nil, leLL_cons, leH_cons, leH_nil, leH1_box, leH1_own, leH1_gone, le_vs, le_agg, le_tup, le_ptr, le_own, le_xp, le_fn, le_opt, le_val, le_elem, le_nil_own, le_nil_vs, leH_ghost, leL_chunk, leXL_id, bnd_int, bnd_bool, bnd_val, bnd_nil, bnd_junk, bnd_vs, bnd_xp, bnd_agg, bnd_tup, bnd_ptr, bnd_own, bnd_elem, bnd_fn, bnd_iface, bnd_opt, bndL_nil, bndL_cons, lenH_cons, lenH_nil, imp_self, implies_true, true_and, and_true] <;> simp [sumO]
    · rintro i hi
      dsimp only [F3_ct51, openC, encP, Int.toNat_natCast, go_sem, Option.bind, Option.map, List.append_nil, Nat.beq, List.cons_append, List.nil_append, List.append_eq, List.map_cons, List.map_nil, ite_self, reduceIte]
      simp only [true_and, and_true, imp_self, implies_true, decide_eq_true_eq, decide_eq_false_iff_not, Nat.reduceAdd, Nat.reduceLeDiff, Bool.not_not, reduceCtorEq, false_imp_iff, Bool.not_eq_true', Bool.not_eq_false', Bool.false_eq_true, and_self, forall_const, ne_eq, not_false_eq_true, Nat.reduceEqDiff, plt_eta]
      refine ⟨fun hlt => ?_, fun hge => ?_⟩
      · have hi' : i < l.length := by omega
        have ho := open_rng (hv _ (getD_mem hi'))
        have hs := sumO_rng (l := l) hi hv
        refine ⟨⟨by omega, hlt⟩, hv _ (getD_mem hi'), i + 1, by omega, by omega, ?_⟩
        rw [w6_raw (x := sumO _ + _) (by omega) (by omega)]
        simp only [w_succ (i := i) (n := l.length) (by omega) (by omega), sumO_take hi', leS_mk, leL_cons, leL_nil, le_junk, le_int, le_bool, le_nil, leLL_nil, leLL_cons, leH_cons, leH_nil, leH1_box, leH1_own, leH1_gone, le_vs, le_agg, le_tup, le_ptr, le_own, le_xp, le_fn, le_opt, le_val, le_elem, le_nil_own, le_nil_vs, leH_ghost, leL_chunk, leXL_id, bnd_int, bnd_bool, bnd_val, bnd_nil, bnd_junk, bnd_vs, bnd_xp, bnd_agg, bnd_tup, bnd_ptr, bnd_own, bnd_elem, bnd_fn, bnd_iface, bnd_opt, bndL_nil, bndL_cons, lenH_cons, lenH_nil, imp_self, implies_true, true_and, and_true] <;> simp
      · obtain rfl : i = l.length := by omega
        rw [take_full (Nat.le_refl _)]
        have hs := sumO_all hv hl
        generalize sumO l = o at *
        have m1 : per * x ≤ 1000 * 1000000000000 := mul_le' h8 h2 (by omega) (by omega)
        have m2 : per * y ≤ 1000 * 1000000000000 := mul_le' h8 h4 (by omega) (by omega)
        have m3 : 0 ≤ per * x := Int.mul_nonneg (by omega) h1
        have m4 : 0 ≤ per * y := Int.mul_nonneg (by omega) h3
        rw [w6_raw (x := 100 * o) (by omega) (by omega), w6_raw (x := per * x) (by omega) (by omega), w6_raw (x := per * y) (by omega) (by omega)]
        refine ⟨fun hc => ?_, fun hc => ⟨fun hd => ?_, fun hd => ?_⟩⟩
        · rw [cmpF, if_pos hc] at h; exact ans_int h
        · rw [cmpF, if_neg hc, if_pos hd] at h; exact ans_int h
        · rw [cmpF, if_neg hc, if_neg hd] at h; exact ans_int h
  · exact h.1.elim

def okI (w : Wsh) (l : List Plt) (x : List Int) (i : Nat) : Bool :=
  !(decide (x.getD i default < 0) || decide ((l.length : Int) ≤ x.getD i default) || (decide (0 < i) && decide (x.getD i default < x.getD (i - 1) default))) && !decide (w.most < fh (l.getD (x.getD i default).toNat default) w.pr)
def okA (w : Wsh) (l : List Plt) (x : List Int) : Bool := (List.range x.length).all fun i => okI w l x i
def chs (l : List Plt) (x : List Int) : List Plt := x.map fun i => l.getD i.toNat default
def wtS (l : List Plt) (x : List Int) (pr : Int) : Int := (chs l x).foldl (fun s p => s + fh p pr) 0
def chcF (a : Iv) (w : Wsh) (l : List Plt) (x : List Int) : Int × Bool :=
  if (decide (x.length < 1) || decide (2 < x.length)) = true then (0, false) else if okA w l x = true then (wtS l x w.pr, decide (cmpF a (sumO (chs l x)) w.per = 1)) else (0, false)
theorem chkT_3 {c : List Iv} : decide (chkT c = 3) = decide ((24 : Int) < (c.length : Int)) := by
  rw [decide_eq_decide]
  unfold chkT
  split
  · simp; omega
  · split
    · simp; omega
    · simp; omega
theorem chkT_n {c : List Iv} (h : ¬ chkT c = 3) : decide (chkT c = 0) = !(c.any toeB) := by
  unfold chkT at *
  split
  · rename_i h1; rw [if_pos h1] at h; exact absurd rfl h
  · split
    · rename_i h2; rw [h2]; rfl
    · rename_i h2; rw [Bool.not_eq_true] at h2; rw [h2]; rfl
def F4 : Env := { ct := fun n => match n with | 56 => some forceC | 33 => some enoughC | 34 => some areaC | 30 => some toesC | 31 => some palsC | 32 => some frmC | _ => none, fn := fun _ => none, meth := fun _ _ => none }
theorem F4_ct33 : F4.ct 33 = some enoughC := rfl
theorem F4_ct34 : F4.ct 34 = some areaC := rfl
theorem F4_ct30 : F4.ct 30 = some toesC := rfl
theorem F4_ct31 : F4.ct 31 = some palsC := rfl
theorem F4_ct32 : F4.ct 32 = some frmC := rfl
theorem F4_ok : EnvOk Try.prog F4 := by
  refine ⟨fun f c h => ?_, fun f vf h => ?_, (fun _ _ _ h => by cases h), by kernel_rfl⟩
  · simp only [F4] at h
    split at h
    · cases h; exact ⟨rforce_ok, Try.f56, Try.func56, by kernel_rfl, by kernel_rfl⟩
    · cases h; exact ⟨renough_ok, Try.f33, Try.func33, by kernel_rfl, by kernel_rfl⟩
    · cases h; exact ⟨rarea_ok, Try.f34, Try.func34, by kernel_rfl, by kernel_rfl⟩
    · cases h; exact ⟨toes_ok, Try.f30, Try.func30, by kernel_rfl, by kernel_rfl⟩
    · cases h; exact ⟨pals_ok, Try.f31, Try.func31, by kernel_rfl, by kernel_rfl⟩
    · cases h; exact ⟨frm_ok, Try.f32, Try.func32, by kernel_rfl, by kernel_rfl⟩
    · cases h
  · cases h

theorem renou_ok : EnC.ok Try.prog 9 := by
  refine contract Try.func9 v9_is F4_ok 300 EnC fun args k h => ?_
  simp only [EnC] at h
  split at h
  · rename_i t z n sz get t' z' n' sz' get' per
    obtain ⟨c, l, ⟨⟨rfl, rfl, hg⟩, ⟨rfl, rfl, hg'⟩, hl, hl'⟩, h⟩ := h
    refine ⟨[.agg [.vs t z c.length 2 (fun k => enc2 (c.getD k default))], .vs t' z' l.length 4 (fun k => encP (l.getD k default)), .int .i64 per], ⟨by simpa [le, leL] using hg, by simpa [le, leL] using hg', by simp [le, leL], trivial⟩, ?_⟩
    have h : k (.tup [.int .i64 (enoF c l per).1, .int .i64 (enoF c l per).2]) [] := h
    dsimp only [v9, F4_ct30, F4_ct31, F4_ct32, F4_ct34, F4_ct33, toesC, palsC, frmC, areaC, enoughC, enc2, encP, go_sem, Option.bind, Option.map, List.append_nil, Nat.beq, List.cons_append, List.nil_append, List.append_eq, List.map_cons, List.map_nil, ite_self, reduceIte]
    simp only [true_and, and_true, imp_self, implies_true, decide_eq_true_eq, decide_eq_false_iff_not, Nat.reduceAdd, Nat.reduceLeDiff, Bool.not_not, reduceCtorEq, false_imp_iff, Bool.not_eq_true', Bool.not_eq_false', Bool.false_eq_true, and_self, forall_const, ne_eq, not_false_eq_true, Nat.reduceEqDiff]
    have e40 : decide ((40 : Int) < (l.length : Int)) = decide (40 < l.length) := by rw [decide_eq_decide]; omega
    rw [e40, ← chkT_3]
    refine ⟨fun hc => ?_, fun hc => ?_⟩
    · rw [enoF, if_pos hc] at h; exact ans_ii h
    · rw [enoF, if_neg (by rw [hc]; simp)] at h
      rw [Bool.or_eq_false_iff, decide_eq_false_iff_not, decide_eq_false_iff_not] at hc
      have hn := chkT_n (c := c) hc.1
      refine ⟨c, ⟨lsP_self, by omega⟩, l, fun _ => ⟨lsP_self, by omega⟩, fun hd => ?_, fun hd => ?_⟩
      · rw [hn, Bool.not_not, if_pos hd] at h
        exact ans_ii h
      · rw [hn, Bool.not_not, if_neg (by rw [hd]; simp)] at h
        rw [Bool.or_eq_false_iff, Bool.or_eq_false_iff, outN_f] at hd
        have hct := any_f hd.1.1
        have hv := any_f hd.1.2
        have h24 : c.length ≤ 24 := by
          have := hc.1
          rcases Nat.lt_or_ge 24 c.length with h | h
          · exact absurd (by rw [chkT, if_pos h]) this
          · exact h
        have ha := area_all hct (by omega)
        refine ⟨c, ⟨lsP_self, by omega, hct⟩, l, ⟨lsP_self, by omega, hv, ha.1, ha.2, hd.2⟩, ans_ii h⟩
  · exact h.1.elim
end Go.Proofs.Ytngccjllkgpjmaa

/- Chests, walked: the reference's choices. -/
/- Chests, walked: the reference's choices. -/
set_option linter.all false
namespace Go.Proofs.Ytngccjllkgpjmaa
open Go Go.Vx
set_option maxRecDepth 100000
set_option maxHeartbeats 4000000

end Go.Proofs.Ytngccjllkgpjmaa

/- Chests, walked: the laws' helpers; the document's examples; the law of Enough. -/
/- Chests, walked: the laws' helpers; the document's examples; the law of Enough. -/
set_option linter.all false
namespace Go.Proofs.Ytngccjllkgpjmaa
open Go Go.Vx
set_option maxRecDepth 100000
set_option maxHeartbeats 4000000

def v19 : VF := { ntmps := 2, res := [.cell 0 true 4], body :=
 (.seq (.region [⟨(some 0), none, (.alloc [(.int .i64 0), (.int .i64 0), (.int .i64 0), (.int .i64 0)]), []⟩])
 (.seq (.region [⟨(some 1), none, (.build [(.int .i64 0), (.int .i64 0), (.int .i64 0), (.int .i64 0)] [(0, 1), (1, 1), (2, 1), (3, 1)]), [.cn (.int .i64 20000), .cn (.int .i64 200000), .cn (.int .i64 6000), .cn (.int .i64 800000)]⟩,
  ⟨none, none, (.store 4), [.tm 0, .tm 1]⟩])
 .ret)) }
theorem v19_is : vfunc Try.prog Try.f19 = some v19 := by kernel_rfl
def v21 : VF := { ntmps := 17, res := [.cell 2 true 1], body :=
 (.seq (.region [⟨(some 2), none, (.alloc [.nil]), []⟩])
 (.seq (.region [⟨(some 3), none, (.alloc [.nil]), []⟩])
 (.seq (.seq (.region [⟨(some 4), none, .mov, [.cn (.int .i64 0)]⟩])
 (.block 0 (.loop (.seq (.seq (.region [⟨(some 5), none, .mov, [.tm 4]⟩,
  ⟨(some 6), none, .mov, [.tm 0]⟩,
  ⟨(some 7), none, (.cmp .lss), [.tm 5, .tm 6]⟩])
 (.cond (.tm 7) .skip
  (.exit 0)))
 (.seq (.block 1 (.region [⟨(some 10), none, (.fieldAddr 0), [.tm 3]⟩,
  ⟨(some 11), none, (.load false 1), [.tm 10]⟩,
  ⟨(some 12), none, (.build [(.int .i64 0), (.int .i64 0)] [(0, 1), (1, 1)]), [.cn (.int .i64 20000), .cn (.int .i64 700)]⟩,
  ⟨(some 13), none, (.buildSlice 2 1 [(.int .i64 0), (.int .i64 0)] [(0, 2)]), [.tm 12]⟩,
  ⟨(some 14), none, (.append 2 16 [(.int .i64 0), (.int .i64 0)]), [.tm 11, .tm 13]⟩,
  ⟨(some 15), none, (.fieldAddr 0), [.tm 3]⟩,
  ⟨none, none, (.store 1), [.tm 15, .tm 14]⟩]))
 (.region [⟨(some 8), none, .mov, [.tm 4]⟩,
  ⟨(some 9), none, (.ari .add), [.tm 8, .cn (.int .i64 1)]⟩,
  ⟨(some 4), none, .mov, [.tm 9]⟩]))))))
 (.seq (.region [⟨(some 16), none, (.load true 1), [.tm 3]⟩,
  ⟨none, none, (.store 1), [.tm 2, .tm 16]⟩])
 .ret)))) }
theorem v21_is : vfunc Try.prog Try.f21 = some v21 := by kernel_rfl
def v22 : VF := { ntmps := 26, res := [.tmp 4], body :=
 (.seq (.region [⟨(some 4), none, .mov, [.cn (.bool false)]⟩])
 (.seq (.seq (.region [⟨(some 6), none, .mov, [.tm 0]⟩,
  ⟨(some 7), none, .len, [.tm 6]⟩,
  ⟨(some 8), none, .mov, [.tm 1]⟩,
  ⟨(some 9), none, .len, [.tm 8]⟩,
  ⟨(some 10), none, (.cmp .neq), [.tm 7, .tm 9]⟩])
 (.cond (.tm 10) (.seq (.region [⟨(some 4), none, .mov, [.cn (.bool false)]⟩])
 .ret)
  .skip))
 (.seq (.seq (.region [⟨(some 5), none, .mov, [.cn (.int .i64 0)]⟩])
 (.block 0 (.loop (.seq (.seq (.region [⟨(some 11), none, .mov, [.tm 5]⟩,
  ⟨(some 12), none, .mov, [.tm 0]⟩,
  ⟨(some 13), none, .len, [.tm 12]⟩,
  ⟨(some 14), none, (.cmp .lss), [.tm 11, .tm 13]⟩])
 (.cond (.tm 14) .skip
  (.exit 0)))
 (.seq (.block 1 (.seq (.draw [] [⟨⟨(some 17), none, .mov, [.tm 0]⟩, []⟩,
  ⟨⟨(some 18), none, .mov, [.tm 5]⟩, []⟩,
  ⟨⟨(some 19), none, (.idxAddr 1), [.tm 17, .tm 18]⟩, []⟩,
  ⟨⟨(some 20), none, (.load false 1), [.tm 19]⟩, []⟩,
  ⟨⟨(some 21), none, .mov, [.tm 1]⟩, []⟩,
  ⟨⟨(some 22), none, .mov, [.tm 5]⟩, []⟩,
  ⟨⟨(some 23), none, (.idxAddr 1), [.tm 21, .tm 22]⟩, []⟩,
  ⟨⟨(some 24), none, (.load false 1), [.tm 23]⟩, []⟩,
  ⟨⟨(some 25), none, (.cmp .neq), [.tm 20, .tm 24]⟩, []⟩])
 (.cond (.tm 25) (.seq (.region [⟨(some 4), none, .mov, [.cn (.bool false)]⟩])
 .ret)
  .skip)))
 (.region [⟨(some 15), none, .mov, [.tm 5]⟩,
  ⟨(some 16), none, (.ari .add), [.tm 15, .cn (.int .i64 1)]⟩,
  ⟨(some 5), none, .mov, [.tm 16]⟩]))))))
 (.seq (.region [⟨(some 4), none, .mov, [.cn (.bool true)]⟩])
 .ret)))) }
theorem v22_is : vfunc Try.prog Try.f22 = some v22 := by kernel_rfl
def v7 : VF := { ntmps := 112, res := [.tmp 0], body :=
 (.seq (.region [⟨(some 0), none, .mov, [.cn (.bool false)]⟩])
 (.seq (.region [⟨(some 17), none, (.call 19), []⟩,
  ⟨(some 18), none, (.buildSlice 4 1 [(.int .i64 0), (.int .i64 0), (.int .i64 0), (.int .i64 0)] [(0, 4)]), [.tm 17]⟩,
  ⟨(some 1), none, .mov, [.tm 18]⟩])
 (.seq (.region [⟨(some 19), none, (.build [(.int .i64 0), (.int .i64 0), (.int .i64 0)] [(0, 1), (1, 1), (2, 1)]), [.cn (.int .i64 100), .cn (.int .i64 600), .cn (.int .i64 4000000)]⟩,
  ⟨(some 2), none, (.alloc [(.int .i64 0), (.int .i64 0), (.int .i64 0)]), []⟩,
  ⟨none, none, (.store 3), [.tm 2, .tm 19]⟩])
 (.seq (.region [⟨(some 21), none, (.call 19), []⟩,
  ⟨(some 22), none, (.call 20), [.tm 21]⟩,
  ⟨(some 20), none, .mov, [.tm 22]⟩,
  ⟨(some 23), none, (.ext 0), [.tm 20]⟩,
  ⟨(some 24), none, (.ext 1), [.tm 20]⟩,
  ⟨(some 3), none, .mov, [.tm 23]⟩,
  ⟨(some 4), none, .mov, [.tm 24]⟩])
 (.seq (.region [⟨(some 26), none, (.call 19), []⟩,
  ⟨(some 27), none, (.call 17), [.tm 26, .cn (.int .i64 600)]⟩,
  ⟨(some 25), none, .mov, [.tm 27]⟩,
  ⟨(some 28), none, (.ext 0), [.tm 25]⟩,
  ⟨(some 29), none, (.ext 1), [.tm 25]⟩,
  ⟨(some 5), none, (.alloc [(.int .i64 0), (.int .i64 0)]), []⟩,
  ⟨none, none, (.store 2), [.tm 5, .tm 28]⟩,
  ⟨(some 6), none, .mov, [.tm 29]⟩])
 (.seq (.region [⟨(some 31), none, (.call 21), [.cn (.int .i64 1)]⟩,
  ⟨(some 32), none, (.call 12), [.tm 31]⟩,
  ⟨(some 30), none, .mov, [.tm 32]⟩,
  ⟨(some 33), none, (.ext 0), [.tm 30]⟩,
  ⟨(some 34), none, (.ext 1), [.tm 30]⟩,
  ⟨(some 7), none, (.alloc [(.int .i64 0), (.int .i64 0)]), []⟩,
  ⟨none, none, (.store 2), [.tm 7, .tm 33]⟩,
  ⟨(some 8), none, .mov, [.tm 34]⟩])
 (.seq (.region [⟨(some 36), none, (.call 21), [.cn (.int .i64 1)]⟩,
  ⟨(some 37), none, .mov, [.tm 1]⟩,
  ⟨(some 38), none, (.call 8), [.tm 36, .tm 37, .cn (.int .i64 500)]⟩,
  ⟨(some 35), none, .mov, [.tm 38]⟩,
  ⟨(some 39), none, (.ext 0), [.tm 35]⟩,
  ⟨(some 40), none, (.ext 1), [.tm 35]⟩,
  ⟨(some 9), none, .mov, [.tm 39]⟩,
  ⟨(some 10), none, .mov, [.tm 40]⟩])
 (.seq (.draw [] [⟨⟨(some 43), none, .mov, [.tm 1]⟩, []⟩,
  ⟨⟨(some 44), none, (.load true 3), [.tm 2]⟩, []⟩,
  ⟨⟨(some 42), none, (.call 21), [.cn (.int .i64 8)]⟩, []⟩,
  ⟨⟨(some 45), none, (.call 10), [.tm 42, .tm 43, .tm 44]⟩, []⟩,
  ⟨⟨(some 41), none, .mov, [.tm 45]⟩, []⟩,
  ⟨⟨(some 46), none, (.ext 0), [.tm 41]⟩, []⟩,
  ⟨⟨(some 47), none, (.ext 1), [.tm 41]⟩, []⟩,
  ⟨⟨(some 11), none, .mov, [.tm 46]⟩, []⟩,
  ⟨⟨(some 12), none, .mov, [.tm 47]⟩, []⟩])
 (.seq (.draw [] [⟨⟨(some 50), none, .mov, [.tm 1]⟩, []⟩,
  ⟨⟨(some 51), none, (.load true 3), [.tm 2]⟩, []⟩,
  ⟨⟨(some 49), none, (.call 21), [.cn (.int .i64 9)]⟩, []⟩,
  ⟨⟨(some 52), none, (.call 10), [.tm 49, .tm 50, .tm 51]⟩, []⟩,
  ⟨⟨(some 48), none, .mov, [.tm 52]⟩, []⟩,
  ⟨⟨(some 53), none, (.ext 0), [.tm 48]⟩, []⟩,
  ⟨⟨(some 54), none, (.ext 1), [.tm 48]⟩, []⟩,
  ⟨⟨(some 13), none, .mov, [.tm 53]⟩, []⟩,
  ⟨⟨(some 14), none, .mov, [.tm 54]⟩, []⟩])
 (.seq (.region [⟨(some 56), none, (.build [(.int .i64 0), (.int .i64 0)] [(0, 1), (1, 1)]), [.cn (.int .i64 10000), .cn (.int .i64 700)]⟩,
  ⟨(some 57), none, (.call 18), [.tm 56, .cn (.int .i64 1000000), .cn (.int .i64 2)]⟩,
  ⟨(some 55), none, .mov, [.tm 57]⟩,
  ⟨(some 58), none, (.ext 0), [.tm 55]⟩,
  ⟨(some 59), none, (.ext 1), [.tm 55]⟩,
  ⟨(some 15), none, (.alloc [(.int .i64 0), (.int .i64 0)]), []⟩,
  ⟨none, none, (.store 2), [.tm 15, .tm 58]⟩,
  ⟨(some 16), none, .mov, [.tm 59]⟩])
 (.seq (.seq (.region [⟨(some 60), none, .mov, [.tm 4]⟩,
  ⟨(some 61), none, (.cmp .neq), [.tm 60, .cn (.int .i64 0)]⟩,
  ⟨(some 62), none, .mov, [.tm 61]⟩,
  ⟨(some 63), (some (62, false)), .mov, [.tm 6]⟩,
  ⟨(some 64), (some (62, false)), (.cmp .neq), [.tm 63, .cn (.int .i64 0)]⟩,
  ⟨(some 65), none, .or, [.tm 62, .tm 64]⟩,
  ⟨(some 66), none, .mov, [.tm 65]⟩,
  ⟨(some 67), (some (66, false)), .mov, [.tm 8]⟩,
  ⟨(some 68), (some (66, false)), (.cmp .neq), [.tm 67, .cn (.int .i64 0)]⟩,
  ⟨(some 69), none, .or, [.tm 66, .tm 68]⟩,
  ⟨(some 70), none, .mov, [.tm 69]⟩,
  ⟨(some 71), (some (70, false)), .mov, [.tm 10]⟩,
  ⟨(some 72), (some (70, false)), (.cmp .neq), [.tm 71, .cn (.int .i64 0)]⟩,
  ⟨(some 73), none, .or, [.tm 70, .tm 72]⟩,
  ⟨(some 74), none, .mov, [.tm 73]⟩,
  ⟨(some 75), (some (74, false)), .mov, [.tm 12]⟩,
  ⟨(some 76), (some (74, false)), (.cmp .neq), [.tm 75, .cn (.int .i64 0)]⟩,
  ⟨(some 77), none, .or, [.tm 74, .tm 76]⟩,
  ⟨(some 78), none, .mov, [.tm 77]⟩,
  ⟨(some 79), (some (78, false)), .mov, [.tm 14]⟩,
  ⟨(some 80), (some (78, false)), (.cmp .neq), [.tm 79, .cn (.int .i64 4)]⟩,
  ⟨(some 81), none, .or, [.tm 78, .tm 80]⟩,
  ⟨(some 82), none, .mov, [.tm 81]⟩,
  ⟨(some 83), (some (82, false)), .mov, [.tm 16]⟩,
  ⟨(some 84), (some (82, false)), (.cmp .neq), [.tm 83, .cn (.int .i64 0)]⟩,
  ⟨(some 85), none, .or, [.tm 82, .tm 84]⟩])
 (.cond (.tm 85) (.seq (.region [⟨(some 0), none, .mov, [.cn (.bool false)]⟩])
 .ret)
  .skip))
 (.seq (.region [⟨(some 86), none, .mov, [.tm 3]⟩,
  ⟨(some 87), none, (.cmp .eql), [.tm 86, .cn (.int .i64 1320000000)]⟩,
  ⟨(some 88), none, .mov, [.tm 87]⟩,
  ⟨(some 89), (some (88, true)), (.load true 2), [.tm 5]⟩,
  ⟨(some 90), (some (88, true)), (.build [(.int .i64 0), (.int .i64 0)] [(0, 1), (1, 1)]), [.cn (.int .i64 3200000), .cn (.int .i64 3200000)]⟩,
  ⟨(some 91), (some (88, true)), (.eqv false [true, true]), [.tm 89, .tm 90]⟩,
  ⟨(some 92), none, .and, [.tm 88, .tm 91]⟩,
  ⟨(some 93), none, .mov, [.tm 92]⟩,
  ⟨(some 94), (some (93, true)), (.load true 2), [.tm 7]⟩,
  ⟨(some 95), (some (93, true)), (.build [(.int .i64 0), (.int .i64 0)] [(0, 1), (1, 1)]), [.cn (.int .i64 314159265), .cn (.int .i64 314159266)]⟩,
  ⟨(some 96), (some (93, true)), (.eqv false [true, true]), [.tm 94, .tm 95]⟩,
  ⟨(some 97), none, .and, [.tm 93, .tm 96]⟩,
  ⟨(some 98), none, .mov, [.tm 97]⟩,
  ⟨(some 99), (some (98, true)), .mov, [.tm 9]⟩,
  ⟨(some 100), (some (98, true)), (.cmp .eql), [.tm 99, .cn (.int .i64 (-1))]⟩,
  ⟨(some 101), none, .and, [.tm 98, .tm 100]⟩,
  ⟨(some 102), none, .mov, [.tm 101]⟩,
  ⟨(some 103), (some (102, true)), .mov, [.tm 11]⟩,
  ⟨(some 104), (some (102, true)), (.buildSlice 1 2 [(.int .i64 0)] [(0, 1), (1, 1)]), [.cn (.int .i64 0), .cn (.int .i64 0)]⟩,
  ⟨(some 105), (some (102, true)), (.call 22), [.tm 103, .tm 104]⟩,
  ⟨(some 106), none, .and, [.tm 102, .tm 105]⟩,
  ⟨(some 107), none, .mov, [.tm 106]⟩,
  ⟨(some 108), (some (107, true)), (.load true 2), [.tm 15]⟩,
  ⟨(some 109), (some (107, true)), (.build [(.int .i64 0), (.int .i64 0)] [(0, 1), (1, 1)]), [.cn (.int .i64 10954), .cn (.int .i64 10955)]⟩,
  ⟨(some 110), (some (107, true)), (.eqv false [true, true]), [.tm 108, .tm 109]⟩,
  ⟨(some 111), none, .and, [.tm 107, .tm 110]⟩,
  ⟨(some 0), none, .mov, [.tm 111]⟩])
 .ret)))))))))))) }
theorem v7_is : vfunc Try.prog Try.f7 = some v7 := by kernel_rfl
def v3 : VF := { ntmps := 46, res := [.tmp 6], body :=
 (.seq (.region [⟨(some 3), none, .box, [.tm 0]⟩,
  ⟨(some 6), none, .mov, [.cn (.bool false)]⟩])
 (.seq (.seq (.region [⟨(some 11), none, (.fieldAddr 0), [.tm 3]⟩,
  ⟨(some 12), none, (.load false 1), [.tm 11]⟩,
  ⟨(some 13), none, .len, [.tm 12]⟩,
  ⟨(some 14), none, (.cmp .gtr), [.tm 13, .cn (.int .i64 30)]⟩,
  ⟨(some 15), none, .mov, [.tm 14]⟩,
  ⟨(some 16), (some (15, false)), .mov, [.tm 1]⟩,
  ⟨(some 17), (some (15, false)), .len, [.tm 16]⟩,
  ⟨(some 18), (some (15, false)), (.cmp .gtr), [.tm 17, .cn (.int .i64 50)]⟩,
  ⟨(some 19), none, .or, [.tm 15, .tm 18]⟩])
 (.cond (.tm 19) (.seq (.region [⟨(some 20), none, (.call 7), []⟩,
  ⟨(some 6), none, .mov, [.tm 20]⟩])
 .ret)
  .skip))
 (.seq (.region [⟨(some 22), none, (.load true 1), [.tm 3]⟩,
  ⟨(some 23), none, .mov, [.tm 1]⟩,
  ⟨(some 24), none, .mov, [.tm 2]⟩,
  ⟨(some 25), none, (.call 8), [.tm 22, .tm 23, .tm 24]⟩,
  ⟨(some 21), none, .mov, [.tm 25]⟩,
  ⟨(some 26), none, (.ext 0), [.tm 21]⟩,
  ⟨(some 27), none, (.ext 1), [.tm 21]⟩,
  ⟨(some 7), none, .mov, [.tm 26]⟩,
  ⟨(some 8), none, .mov, [.tm 27]⟩])
 (.seq (.region [⟨(some 29), none, (.load true 1), [.tm 3]⟩,
  ⟨(some 30), none, .mov, [.tm 1]⟩,
  ⟨(some 31), none, .mov, [.tm 2]⟩,
  ⟨(some 32), none, (.call 9), [.tm 29, .tm 30, .tm 31]⟩,
  ⟨(some 28), none, .mov, [.tm 32]⟩,
  ⟨(some 33), none, (.ext 0), [.tm 28]⟩,
  ⟨(some 34), none, (.ext 1), [.tm 28]⟩,
  ⟨(some 9), none, .mov, [.tm 33]⟩,
  ⟨(some 10), none, .mov, [.tm 34]⟩])
 (.seq (.region [⟨(some 35), none, .mov, [.tm 7]⟩,
  ⟨(some 36), none, .mov, [.tm 9]⟩,
  ⟨(some 37), none, (.cmp .eql), [.tm 35, .tm 36]⟩,
  ⟨(some 38), none, .mov, [.tm 37]⟩,
  ⟨(some 39), (some (38, true)), .mov, [.tm 8]⟩,
  ⟨(some 40), (some (38, true)), .mov, [.tm 10]⟩,
  ⟨(some 41), (some (38, true)), (.cmp .eql), [.tm 39, .tm 40]⟩,
  ⟨(some 42), none, .and, [.tm 38, .tm 41]⟩,
  ⟨(some 43), none, .mov, [.tm 42]⟩,
  ⟨(some 44), (some (43, true)), (.call 7), []⟩,
  ⟨(some 45), none, .and, [.tm 43, .tm 44]⟩,
  ⟨(some 6), none, .mov, [.tm 45]⟩])
 .ret))))) }
theorem v3_is : vfunc Try.prog Try.f3 = some v3 := by kernel_rfl


def plC : Ctr := { alias := false, of := fun l => match l with
  | [] => .fin (.agg [.int .i64 20000, .int .i64 200000, .int .i64 6000, .int .i64 800000]) []
  | _ => noC }
def chaC : Ctr := { alias := false, of := fun l => match l with
  | [.int .i64 n] => .pre (0 ≤ n ∧ n ≤ 1000) (.fin (.agg [.vs true (decide (n.toNat = 0)) n.toNat 2 (fun _ => enc2 (20000, 700))]) [])
  | _ => noC }
def samC {α : Type} [Inhabited α] [DecidableEq α] (size : Nat) (e : α → List SV) : Ctr := { alias := false, of := fun l => match l with
  | [.vs _ _ n sz get, .vs _ _ m sz' get'] => .ex (List α) fun a => .ex (List α) fun b => .pre (lsP size e n sz get a ∧ lsP size e m sz' get' b ∧ a.length ≤ 1000000000000) (.fin (.bool (decide (a = b))) [])
  | _ => noC }
def samIC : Ctr := samC 1 enc1
def L0 : Env := { ct := fun _ => none, fn := fun _ => none, meth := fun _ _ => none }
theorem L0_ok : EnvOk Try.prog L0 := by
  refine ⟨fun f c h => ?_, fun f vf h => ?_, (fun _ _ _ h => by cases h), by kernel_rfl⟩
  · cases h
  · cases h

theorem pl_ok : plC.ok Try.prog 19 := by
  refine contract Try.func19 v19_is L0_ok 100 plC fun args k h => ⟨args, ?_⟩
  simp only [plC] at h
  split at h
  · refine ⟨by simp [leL, le], ?_⟩
    dsimp only [v19, go_sem, Option.bind, Option.map, List.append_nil, Nat.beq, List.cons_append, List.nil_append, List.append_eq, List.map_cons, List.map_nil, ite_self, reduceIte]
    simp only [true_and, and_true, imp_self, implies_true, decide_eq_true_eq, decide_eq_false_iff_not, Nat.reduceAdd, Nat.reduceLeDiff, Bool.not_not, reduceCtorEq, false_imp_iff, Bool.not_eq_true', Bool.not_eq_false', Bool.false_eq_true, and_self, forall_const, ne_eq, not_false_eq_true, Nat.reduceEqDiff]
    exact ans_le (show k _ [] from h) (leX_le (.agg [.int _ _, .int _ _, .int _ _, .int _ _]) _ (leXL_self _) ⟨trivial, trivial, trivial, trivial, trivial⟩) (fun _ => by simp [freshS, freshL])
  · exact h.1.elim
theorem cha_ok : chaC.ok Try.prog 21 := by
  refine contract Try.func21 v21_is L0_ok 100 chaC fun args k h => ⟨args, ?_⟩
  simp only [chaC] at h
  split at h
  · rename_i n
    obtain ⟨⟨h0, h1⟩, h⟩ := h
    refine ⟨by simp [leL, le], ?_⟩
    obtain ⟨n, rfl⟩ := Int.eq_ofNat_of_zero_le h0
    have h : k (.agg [.vs true (decide (n = 0)) n 2 (fun _ => enc2 (20000, 700))]) [] := h
    dsimp only [v21, go_sem, Option.bind, Option.map, List.append_nil, Nat.beq, List.cons_append, List.nil_append, List.append_eq, List.map_cons, List.map_nil, ite_self, reduceIte]
    simp only [true_and, and_true, imp_self, implies_true, decide_eq_true_eq, decide_eq_false_iff_not, Nat.reduceAdd, Nat.reduceLeDiff, Bool.not_not, reduceCtorEq, false_imp_iff, Bool.not_eq_true', Bool.not_eq_false', Bool.false_eq_true, and_self, forall_const, ne_eq, not_false_eq_true, Nat.reduceEqDiff]
    refine Loop.keep [0, 1, 0] Nat (fun i => [(4, .int .i64 i)]) (fun i => [(1, .box [.own 2 0 i 2]), (2, .own (decide (i = 0)) 2 i (fun _ => enc2 (20000, 700)))]) [.gone] (fun i => i ≤ n) (fun i => n - i) ?_ ?_
    · refine ⟨0, Nat.zero_le _, ?_⟩
      dsimp only [go_sem, Option.bind, Option.map, List.append_nil, Nat.beq, List.cons_append, List.nil_append, List.append_eq, List.map_cons, List.map_nil, ite_self, reduceIte]
      simp only [leH_ghost, leS_mk, leL_cons, leL_nil, le_junk, le_int, le_bool, le_nil, leLL_nil, leLL_cons, leH_cons, leH_nil, leH1_box, leH1_own, leH1_gone, le_vs, le_agg, le_tup, le_ptr, le_own, le_xp, le_fn, le_opt, le_val, le_elem, le_nil_own, le_nil_vs, leH_ghost, leL_chunk, leXL_id, bnd_int, bnd_bool, bnd_val, bnd_nil, bnd_junk, bnd_vs, bnd_xp, bnd_agg, bnd_tup, bnd_ptr, bnd_own, bnd_elem, bnd_fn, bnd_iface, bnd_opt, bndL_nil, bndL_cons, lenH_cons, lenH_nil, imp_self, implies_true, true_and, and_true] <;> simp
    · rintro i hi
      dsimp only [enc2, go_sem, Option.bind, Option.map, List.append_nil, Nat.beq, List.cons_append, List.nil_append, List.append_eq, List.map_cons, List.map_nil, ite_self, reduceIte]
      simp only [true_and, and_true, imp_self, implies_true, decide_eq_true_eq, decide_eq_false_iff_not, Nat.reduceAdd, Nat.reduceLeDiff, Bool.not_not, reduceCtorEq, false_imp_iff, Bool.not_eq_true', Bool.not_eq_false', Bool.false_eq_true, and_self, forall_const, ne_eq, not_false_eq_true, Nat.reduceEqDiff]
      refine ⟨fun hlt => ?_, fun hge => ?_⟩
      · refine ⟨by decide, ⟨by unfold capOk; omega, fun k hk => ?_⟩, i + 1, by omega, by omega, ?_⟩
        · obtain rfl : k = 0 := by omega
          exact ⟨rfl, trivial, trivial, trivial⟩
        · simp only [w_succ (i := i) (n := n) (by omega) (by omega), leS_mk, leL_cons, leL_nil, le_junk, le_int, le_bool, le_nil, leLL_nil, leLL_cons, leH_cons, leH_nil, leH1_box, leH1_own, leH1_gone, le_vs, le_agg, le_tup, le_ptr, le_own, le_xp, le_fn, le_opt, le_val, le_elem, le_nil_own, le_nil_vs, leH_ghost, leL_chunk, leXL_id, bnd_int, bnd_bool, bnd_val, bnd_nil, bnd_junk, bnd_vs, bnd_xp, bnd_agg, bnd_tup, bnd_ptr, bnd_own, bnd_elem, bnd_fn, bnd_iface, bnd_opt, bndL_nil, bndL_cons, lenH_cons, lenH_nil, imp_self, implies_true, true_and, and_true]
          refine ⟨by omega, by omega, by simp, fun k hk => ?_⟩
          split
          · exact ⟨⟨rfl, rfl⟩, ⟨rfl, rfl⟩, trivial⟩
          · obtain rfl : k = i := by omega
            rw [Nat.sub_self]
            exact ⟨⟨rfl, rfl⟩, ⟨rfl, rfl⟩, trivial⟩
      · obtain rfl : i = n := by omega
        refine ans_le (show k _ [] from h) ?_ (fun _ => by simp [enc2, freshS, freshL])
        simp only [expo, view, viewL, getH]
        exact ⟨⟨fun h => h, rfl, rfl, rfl, fun q _ => ⟨⟨rfl, rfl⟩, ⟨rfl, rfl⟩, trivial⟩⟩, trivial⟩
  · exact h.1.elim
theorem list_ne {α : Type} [Inhabited α] {a b : List α} {i : Nat} (h : a.getD i default ≠ b.getD i default) : a ≠ b := fun e => h (by rw [e])
theorem samI_ok : samIC.ok Try.prog 22 := by
  refine contract Try.func22 v22_is L0_ok 200 samIC fun args k h => ?_
  simp only [samIC, samC] at h
  split at h
  · rename_i t z n sz get t' z' m sz' get'
    obtain ⟨a, b, ⟨⟨rfl, rfl, hg⟩, ⟨rfl, rfl, hg'⟩, hbig⟩, h⟩ := h
    refine ⟨[.vs t z a.length 1 (fun k => enc1 (a.getD k default)), .vs t' z' b.length 1 (fun k => enc1 (b.getD k default))], ⟨by simpa [le] using hg, by simpa [le] using hg', trivial⟩, ?_⟩
    have h : k (.bool (decide (a = b))) [] := h
    dsimp only [v22, enc1, go_sem, Option.bind, Option.map, List.append_nil, Nat.beq, List.cons_append, List.nil_append, List.append_eq, List.map_cons, List.map_nil, ite_self, reduceIte]
    simp only [true_and, and_true, imp_self, implies_true, decide_eq_true_eq, decide_eq_false_iff_not, Nat.reduceAdd, Nat.reduceLeDiff, Bool.not_not, reduceCtorEq, false_imp_iff, Bool.not_eq_true', Bool.not_eq_false', Bool.false_eq_true, and_self, forall_const, ne_eq, not_false_eq_true, Nat.reduceEqDiff]
    refine ⟨fun hc => ?_, fun hc => ?_⟩
    · rw [decide_eq_false (show ¬ a = b from fun e => by rw [e] at hc; omega)] at h; exact ans_bool h
    · have hlen : a.length = b.length := by omega
      refine Loop.keep [0, 0, 3] Nat (fun i => [(5, .int .i64 i)]) (fun _ => []) [] (fun i => i ≤ a.length ∧ ∀ j, j < i → a.getD j default = b.getD j default) (fun i => a.length - i) ?_ ?_
      · refine ⟨0, ⟨Nat.zero_le _, fun j h => by omega⟩, ?_⟩
        dsimp only [go_sem, Option.bind, Option.map, List.append_nil, Nat.beq, List.cons_append, List.nil_append, List.append_eq, List.map_cons, List.map_nil, ite_self, reduceIte]
        simp only [leS_mk, leL_cons, leL_nil, le_junk, le_int, le_bool, le_nil, leLL_nil, leLL_cons, leH_cons, leH_nil, leH1_box, leH1_own, leH1_gone, le_vs, le_agg, le_tup, le_ptr, le_own, le_xp, le_fn, le_opt, le_val, le_elem, le_nil_own, le_nil_vs, leH_ghost, leL_chunk, leXL_id, bnd_int, bnd_bool, bnd_val, bnd_nil, bnd_junk, bnd_vs, bnd_xp, bnd_agg, bnd_tup, bnd_ptr, bnd_own, bnd_elem, bnd_fn, bnd_iface, bnd_opt, bndL_nil, bndL_cons, lenH_cons, lenH_nil, imp_self, implies_true, true_and, and_true]
        simp
      · rintro i ⟨hi, ha⟩
        dsimp only [enc1, Int.toNat_natCast, go_sem, Option.bind, Option.map, List.append_nil, Nat.beq, List.cons_append, List.nil_append, List.append_eq, List.map_cons, List.map_nil, ite_self, reduceIte]
        simp only [true_and, and_true, imp_self, implies_true, decide_eq_true_eq, decide_eq_false_iff_not, Nat.reduceAdd, Nat.reduceLeDiff, Bool.not_not, reduceCtorEq, false_imp_iff, Bool.not_eq_true', Bool.not_eq_false', Bool.false_eq_true, and_self, forall_const, ne_eq, not_false_eq_true, Nat.reduceEqDiff]
        refine ⟨fun hlt => ?_, fun hge => ?_⟩
        · refine ⟨⟨by omega, hlt⟩, ⟨by omega, by omega⟩, ?_⟩
          refine ⟨fun hne => ?_, fun heq => ?_⟩
          · rw [decide_eq_false (list_ne (a := a) (b := b) (i := i) fun e => hne (by rw [e]))] at h; exact ans_bool h
          · refine ⟨i + 1, ⟨by omega, fun j hj => ?_⟩, by omega, ?_⟩
            · rcases Nat.lt_or_ge j i with h' | h'
              · exact ha j h'
              · obtain rfl : j = i := by omega
                omega
            · simp only [w_succ (i := i) (n := a.length) (by omega) (by omega), leS_mk, leL_cons, leL_nil, le_junk, le_int, le_bool, le_nil, leLL_nil, leLL_cons, leH_cons, leH_nil, leH1_box, leH1_own, leH1_gone, le_vs, le_agg, le_tup, le_ptr, le_own, le_xp, le_fn, le_opt, le_val, le_elem, le_nil_own, le_nil_vs, leH_ghost, leL_chunk, leXL_id, bnd_int, bnd_bool, bnd_val, bnd_nil, bnd_junk, bnd_vs, bnd_xp, bnd_agg, bnd_tup, bnd_ptr, bnd_own, bnd_elem, bnd_fn, bnd_iface, bnd_opt, bndL_nil, bndL_cons, lenH_cons, lenH_nil, imp_self, implies_true, true_and, and_true] <;> simp
        · have e : a = b := list_ext hlen fun i h => ha i (by omega)
          rw [decide_eq_true e] at h; exact ans_bool h
  · exact h.1.elim

def A0 : Env := { ct := fun n => match n with | 19 => some plC | 21 => some chaC | 22 => some samIC | 20 => some OpC | 17 => some FoC | 12 => some ArC | 8 => some EnC | 10 => some ChC | 18 => some TuC | _ => none, fn := fun _ => none, meth := fun _ _ => none }
theorem A0_ct19 : A0.ct 19 = some plC := rfl
theorem A0_ct21 : A0.ct 21 = some chaC := rfl
theorem A0_ct22 : A0.ct 22 = some samIC := rfl
theorem A0_ct20 : A0.ct 20 = some OpC := rfl
theorem A0_ct17 : A0.ct 17 = some FoC := rfl
theorem A0_ct12 : A0.ct 12 = some ArC := rfl
theorem A0_ct8 : A0.ct 8 = some EnC := rfl
theorem A0_ct10 : A0.ct 10 = some ChC := rfl
theorem A0_ct18 : A0.ct 18 = some TuC := rfl
theorem A0_ok : EnvOk Try.prog A0 := by
  refine ⟨fun f c h => ?_, fun f vf h => ?_, (fun _ _ _ h => by cases h), by kernel_rfl⟩
  · simp only [A0] at h
    split at h
    · cases h; exact ⟨pl_ok, Try.f19, Try.func19, by kernel_rfl, by kernel_rfl⟩
    · cases h; exact ⟨cha_ok, Try.f21, Try.func21, by kernel_rfl, by kernel_rfl⟩
    · cases h; exact ⟨samI_ok, Try.f22, Try.func22, by kernel_rfl, by kernel_rfl⟩
    · cases h; exact ⟨Op_ok, Try.f20, Try.func20, by kernel_rfl, by kernel_rfl⟩
    · cases h; exact ⟨Fo_ok, Try.f17, Try.func17, by kernel_rfl, by kernel_rfl⟩
    · cases h; exact ⟨Ar_ok, Try.f12, Try.func12, by kernel_rfl, by kernel_rfl⟩
    · cases h; exact ⟨En_ok, Try.f8, Try.func8, by kernel_rfl, by kernel_rfl⟩
    · cases h; exact ⟨Ch_ok, Try.f10, Try.func10, by kernel_rfl, by kernel_rfl⟩
    · cases h; exact ⟨Tu_ok, Try.f18, Try.func18, by kernel_rfl, by kernel_rfl⟩
    · cases h
  · cases h

def toes (n : Nat) : List Iv := List.replicate n (20000, 700)
def pal0 : Plt := ⟨20000, 200000, 6000, 800000⟩
theorem toes_ls {n : Nat} : lsP 2 enc2 n 2 (fun _ => [SV.int .i64 20000, .int .i64 700]) (toes n) := by
  refine ⟨rfl, by simp [toes], fun k hk => ?_⟩
  rw [show (toes n).getD k default = (20000, 700) by simp [toes, List.getD_eq_getElem?_getD, List.getElem?_replicate, hk]]
  exact leXL_self _
theorem awake_ok : trueC.ok Try.prog 7 := by
  refine contract Try.func7 v7_is A0_ok 400 trueC fun args k h => ⟨args, ?_⟩
  simp only [trueC] at h
  split at h
  · refine ⟨by simp [leL], ?_⟩
    dsimp only [v7, A0_ct19, A0_ct21, A0_ct22, A0_ct20, A0_ct17, A0_ct12, A0_ct8, A0_ct10, A0_ct18, plC, chaC, samIC, samC, OpC, FoC, ArC, EnC, ChC, TuC, vsI, enc2, enc1, go_sem, Option.bind, Option.map, List.append_nil, Nat.beq, List.cons_append, List.nil_append, List.append_eq, List.map_cons, List.map_nil, ite_self, reduceIte]
    simp only [true_and, and_true, imp_self, implies_true, decide_eq_true_eq, decide_eq_false_iff_not, Nat.reduceAdd, Nat.reduceLeDiff, Bool.not_not, reduceCtorEq, false_imp_iff, Bool.not_eq_true', Bool.not_eq_false', Bool.false_eq_true, and_self, forall_const, ne_eq, not_false_eq_true, Nat.reduceEqDiff]
    have hp : ∀ G : Nat → List SV, leXL (G 0) (encP pal0) → lsP 4 encP 1 4 G [pal0] := fun G hG => ⟨rfl, rfl, fun k hk => match k, hk with | 0, _ => hG⟩
    refine ⟨by decide, by decide, by decide, by decide, by decide, by decide, toes 1, ⟨toes_ls, by simp [toes]⟩, by decide, by decide, by decide, toes 1, [pal0], ⟨toes_ls, hp _ (leXL_self _), by simp [toes], by simp⟩, by decide, by decide, by decide, toes 8, [pal0], ⟨toes_ls, hp _ (leXL_self _), by simp [toes], by simp⟩, ?_⟩
    refine ⟨by decide, by decide, by decide, toes 9, [pal0], ⟨toes_ls, hp _ (leXL_self _), by simp [toes], by simp⟩, by decide, by decide, by decide, by decide, ?_⟩
    have e1 : oF ⟨20000, 200000, 6000, 800000⟩ = (1320000000, 0) := by decide +kernel
    have e2 : fF ⟨20000, 200000, 6000, 800000⟩ 600 = ((3200000, 3200000), 0) := by decide +kernel
    have e3 : aF (toes 1) = ((314159265, 314159266), 0) := by decide +kernel
    have e4 : enoF (toes 1) [pal0] 500 = (-1, 0) := by decide +kernel
    have e5 : choF (toes 8) [pal0] ⟨100, 600, 4000000⟩ = ([0, 0], 0) := by decide +kernel
    have e6 : choF (toes 9) [pal0] ⟨100, 600, 4000000⟩ = ([], 4) := by decide +kernel
    have e7 : tF (10000, 700) 1000000 2 = ((10954, 10955), 0) := by decide +kernel
    simp only [e1, e2, e3, e4, e5, e6, e7]
    simp only [true_and, and_true, imp_self, implies_true, decide_eq_true_eq, decide_eq_false_iff_not, Nat.reduceAdd, Nat.reduceLeDiff, Bool.not_not, reduceCtorEq, false_imp_iff, Bool.not_eq_true', Bool.not_eq_false', Bool.false_eq_true, and_self, forall_const, ne_eq, not_false_eq_true, Nat.reduceEqDiff, decide_true, decide_false, Bool.and_true, Bool.true_and, Bool.and_false, Bool.false_and, Bool.not_true, Bool.not_false, Bool.or_false, Bool.false_or, Bool.or_true, Bool.true_or, Bool.and_self, Bool.or_self, Bool.false_eq_true, Bool.true_eq_false, false_imp_iff, forall_const, true_and, and_true, implies_true, reduceCtorEq, not_true_eq_false, not_false_eq_true, ite_true, ite_false]
    refine ⟨by decide, [0, 0], [0, 0], ⟨lsP_self, ⟨rfl, rfl, fun k hk => match k, hk with | 0, _ => leXL_self _ | 1, _ => leXL_self _⟩, by simp⟩, ?_⟩
    exact ans_bool h
  · exact h.1.elim

/-! ### Shapes -/

def shT : List Sh := [.int .i64, .int .i64]
def shP : List Sh := [.int .i64, .int .i64, .int .i64, .int .i64]
def shC : List Sh := [.slice shT]
theorem t_of {c : List SV} (h : okSL shT c) : ∃ p : Iv, c = enc2 p := by
  obtain ⟨_, _, rfl, ⟨n1, rfl, _⟩, e1⟩ := okSL_cons_inv h
  obtain ⟨_, _, rfl, ⟨n2, rfl, _⟩, e2⟩ := okSL_cons_inv e1
  cases okSL_nil_inv e2
  exact ⟨(n1, n2), rfl⟩
theorem p_of {c : List SV} (h : okSL shP c) : ∃ p : Plt, c = encP p := by
  obtain ⟨_, _, rfl, ⟨n1, rfl, _⟩, e1⟩ := okSL_cons_inv h
  obtain ⟨_, _, rfl, ⟨n2, rfl, _⟩, e2⟩ := okSL_cons_inv e1
  obtain ⟨_, _, rfl, ⟨n3, rfl, _⟩, e3⟩ := okSL_cons_inv e2
  obtain ⟨_, _, rfl, ⟨n4, rfl, _⟩, e4⟩ := okSL_cons_inv e3
  cases okSL_nil_inv e4
  exact ⟨⟨n1, n2, n3, n4⟩, rfl⟩
theorem sls_of {α : Type} [Inhabited α] {sh : List Sh} {e : α → List SV} (he : ∀ c, okSL sh c → ∃ p, c = e p) {v : SV} (h : okS (.slice sh) v) :
    ∃ (z : Bool) (l : List α), l.length ≤ maxLen ∧ leX v (.vs false z l.length (lenSh sh) (fun k => e (l.getD k default))) :=
  slice_of (fun c hc => let ⟨p, h⟩ := he c hc; ⟨p, by rw [h]; exact leXL_self _⟩) h
theorem c_of {c : List SV} (h : okSL shC c) : ∃ (z : Bool) (l : List Iv), l.length ≤ maxLen ∧ leXL c [.vs false z l.length 2 (fun k => enc2 (l.getD k default))] := by
  obtain ⟨_, _, rfl, h6, e6⟩ := okSL_cons_inv h
  cases okSL_nil_inv e6
  obtain ⟨z, l, hl, hle⟩ := sls_of (fun _ => t_of) h6
  exact ⟨z, l, hl, hle, trivial⟩

def A1 : Env := { ct := fun n => match n with | 7 => some trueC | 8 => some EnC | 9 => some EnC | _ => none, fn := fun _ => none, meth := fun _ _ => none }
theorem A1_ct7 : A1.ct 7 = some trueC := rfl
theorem A1_ct8 : A1.ct 8 = some EnC := rfl
theorem A1_ct9 : A1.ct 9 = some EnC := rfl
theorem A1_ok : EnvOk Try.prog A1 := by
  refine ⟨fun f c h => ?_, fun f vf h => ?_, (fun _ _ _ h => by cases h), by kernel_rfl⟩
  · simp only [A1] at h
    split at h
    · cases h; exact ⟨awake_ok, Try.f7, Try.func7, by kernel_rfl, by kernel_rfl⟩
    · cases h; exact ⟨En_ok, Try.f8, Try.func8, by kernel_rfl, by kernel_rfl⟩
    · cases h; exact ⟨renou_ok, Try.f9, Try.func9, by kernel_rfl, by kernel_rfl⟩
    · cases h
  · cases h

def lawE : List PSh := [⟨true, shC⟩, ⟨false, [.slice shP]⟩, ⟨false, [.int .i64]⟩]
theorem lawEnough : (lawC lawE).ok Try.prog 3 := by
  refine contract Try.func3 v3_is A1_ok 400 (lawC lawE) fun args k h => ?_
  obtain ⟨ha, hk⟩ := h
  obtain ⟨_, _, rfl, h1, e1⟩ := okPL_cons_inv ha
  obtain ⟨cs, rfl, hcs⟩ := okP_agg_inv h1
  obtain ⟨v, _, rfl, h2, e2⟩ := okPL_cons_inv e1
  obtain ⟨_, _, rfl, h3, e3⟩ := okPL_cons_inv e2
  cases okPL_nil_inv e3
  obtain ⟨per, rfl, hper⟩ := okP_one_inv h3
  obtain ⟨z, c, hcl, hce⟩ := c_of hcs
  obtain ⟨z', l, hll, hle⟩ := sls_of (fun _ => p_of) (okP_one_inv h2)
  rw [maxLen_eq] at hcl hll
  refine ⟨[.agg [.vs false z c.length 2 (fun k => enc2 (c.getD k default))], .vs false z' l.length 4 (fun k => encP (l.getD k default)), .int .i64 per], ⟨leXL_le _ _ hce (by simp [bndL, bnd]), leX_le _ _ hle trivial, ⟨rfl, rfl⟩, trivial⟩, ?_⟩
  dsimp only [v3, A1_ct7, A1_ct8, A1_ct9, trueC, EnC, enc2, encP, go_sem, Option.bind, Option.map, List.append_nil, Nat.beq, List.cons_append, List.nil_append, List.append_eq, List.map_cons, List.map_nil, ite_self, reduceIte]
  simp only [true_and, and_true, imp_self, implies_true, decide_eq_true_eq, decide_eq_false_iff_not, Nat.reduceAdd, Nat.reduceLeDiff, Bool.not_not, reduceCtorEq, false_imp_iff, Bool.not_eq_true', Bool.not_eq_false', Bool.false_eq_true, and_self, forall_const, ne_eq, not_false_eq_true, Nat.reduceEqDiff]
  have hk' : k (.bool true) [] := hk
  refine ⟨fun _ => ans_bool hk', fun hf => ?_⟩
  rw [Bool.or_eq_false_iff, decide_eq_false_iff_not, decide_eq_false_iff_not] at hf
  refine ⟨c, l, ⟨lsP_self, lsP_self, by omega, by omega⟩, by decide, by decide, c, l, ⟨lsP_self, lsP_self, by omega, by omega⟩, by decide, by decide, ?_⟩
  rw [decide_eq_true rfl, decide_eq_true rfl]
  exact ans_bool (by simpa using hk')
end Go.Proofs.Ytngccjllkgpjmaa

/- Chests, in plain Lean: the best choice is the best. -/
/- Chests, in plain Lean: the best choice is the best. -/
set_option linter.all false
namespace Go.Proofs.Ytngccjllkgpjmaa
open Go Go.Vx

/-- Is a list a choice, and how heavy? -/
def isC (a : Iv) (w : Wsh) (l : List Plt) (x : List Int) : Prop := (chcF a w l x).2 = true
/-- One choice is no worse than another one: fewer pallets, lighter, or a lesser list. -/
def betterEq (x y : List Int × Int) : Prop := x.1.length < y.1.length ∨ x.1.length = y.1.length ∧ (x.2 < y.2 ∨ x.2 = y.2 ∧ (x.1 = y.1 ∨ ∃ i, i < x.1.length ∧ (∀ j, j < i → x.1.getD j default = y.1.getD j default) ∧ x.1.getD i default < y.1.getD i default))

/-- What the search holds after some candidates: the best one of those, if any is a choice. -/
structure Inv (a : Iv) (w : Wsh) (l : List Plt) (b : Bst) (P : List Int → Prop) : Prop where
  nil : b.1 = [] → b.2 = 0 ∧ ∀ x, P x → ¬ isC a w l x
  some : b.1 ≠ [] → P b.1 ∧ chcF a w l b.1 = (b.2, true) ∧ ∀ x, P x → isC a w l x → betterEq b (x, (chcF a w l x).1)

end Go.Proofs.Ytngccjllkgpjmaa

/- Chests, walked: the law of the best choice. -/
/- Chests, walked: the law of the best choice. -/
set_option linter.all false
namespace Go.Proofs.Ytngccjllkgpjmaa
open Go Go.Vx
set_option maxRecDepth 100000
set_option maxHeartbeats 4000000

end Go.Proofs.Ytngccjllkgpjmaa

/- Chests, in plain Lean: the exact area, the exact force; tubes. -/
/- Chests, in plain Lean: the exact area, the exact force; tubes. -/
set_option linter.all false
namespace Go.Proofs.Ytngccjllkgpjmaa
open Go Go.Vx

end Go.Proofs.Ytngccjllkgpjmaa

/- Chests, in plain Lean: numbers of the exact area. -/
/- Chests, in plain Lean: numbers of the exact area. -/
set_option linter.all false
namespace Go.Proofs.Ytngccjllkgpjmaa
open Go Go.Vx

end Go.Proofs.Ytngccjllkgpjmaa

/- Chests, walked: the law of what is true. -/
/- Chests, walked: the law of what is true. -/
set_option linter.all false
namespace Go.Proofs.Ytngccjllkgpjmaa
open Go Go.Vx
set_option maxRecDepth 100000
set_option maxHeartbeats 4000000

end Go.Proofs.Ytngccjllkgpjmaa

/- Laws of chests, as they are given, without a condition. -/
/- Laws of chests, as they are given, without a condition. -/
set_option linter.all false
namespace Go.Proofs.Ytngccjllkgpjmaa
open Go Go.Vx Go.RowKit
set_option maxRecDepth 100000

theorem ownX1 : ownKnob Try.prog.godebug = none := by kernel_rfl
theorem laidX1 : laidOutB Try.prog = true := by kernel_rfl

theorem chestsEnough_lifted (os : Os) (started : os.Started) (H : Type) (enc : TypeId × Value → H) :
    ReturnsInHanded {} Try.checked os 3 .any (Rows.chestsEnoughSpec.pre6 enc Try.prog Try.f3 Rows.chestsEnoughRow.domain false) (Rows.chestsEnoughSpec.post enc Try.prog Try.f3 false true false false) :=
  law_lifted (C := Try.checked) (tb := 4) ownX1 started (by kernel_rfl) Try.func3 laidX1
    (ChangeSpec.witness6 (enc := enc) (C := Try.checked) false ⟨#[], #[.agg #[.slice none 0 0], .slice none 0 0, .int .i64 0], []⟩ 8 (by kernel_rfl) (by kernel_rfl) (by kernel_rfl) (by kernel_rfl))
    (by kernel_rfl) (by kernel_rfl) (by kernel_rfl) (by kernel_rfl) rfl (fun ds h => match ds, h with | [_, _, _], _ => ⟨rfl, rfl, rfl⟩) lawEnough

theorem chestsEnough_holds : Rows.ChestsEnoughSaid :=
  OpenClaim.holds_of_wide 3 Try.f3 rfl rfl rfl rfl rfl rfl rfl ⟨rfl, rfl, rfl, rfl, rfl⟩ rfl rfl rfl rfl rfl (by kernel_rfl) Try.func3 (by kernel_rfl)
    (of_decide_eq_true (by kernel_rfl)) (by unfold Func.isWrapper; first | (rw [if_pos (by decide +kernel)]; kernel_rfl) | (rw [if_neg (by decide +kernel)]; exact ⟨rfl, rfl⟩))
    (fun os started H enc _ => chestsEnough_lifted os started H enc)

end Go.Proofs.Ytngccjllkgpjmaa

