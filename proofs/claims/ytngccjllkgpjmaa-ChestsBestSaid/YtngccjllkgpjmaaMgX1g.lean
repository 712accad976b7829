/- Chests, walked: the reference's functions. -/
import Derived.Test.YtngccjllkgpjmaaMgX1f
import Derived.Test.YtngccjllkgpjmaaMgX1c
import Derived.Test.YtngccjllkgpjmaaRows
/- Chests, walked: the reference's functions. -/
set_option linter.all false
namespace Go.Proofs.Ytngccjllkgpjmaa
open Go Go.Vx
set_option maxRecDepth 100000
set_option maxHeartbeats 4000000

def v32 : VF := { ntmps := 15, res := [.tmp 6], body :=
 (.seq (.region [⟨(some 6), none, .mov, [.cn (.bool false)]⟩])
 (.seq (.region [⟨(some 7), none, .mov, [.tm 0]⟩,
  ⟨(some 8), none, .mov, [.tm 1]⟩,
  ⟨(some 9), none, (.cmp .geq), [.tm 7, .tm 8]⟩,
  ⟨(some 10), none, .mov, [.tm 9]⟩,
  ⟨(some 11), (some (10, true)), .mov, [.tm 0]⟩,
  ⟨(some 12), (some (10, true)), .mov, [.tm 2]⟩,
  ⟨(some 13), (some (10, true)), (.cmp .leq), [.tm 11, .tm 12]⟩,
  ⟨(some 14), none, .and, [.tm 10, .tm 13]⟩,
  ⟨(some 6), none, .mov, [.tm 14]⟩])
 .ret)) }
theorem v32_is : vfunc Try.prog Try.f32 = some v32 := by kernel_rfl
def v53 : VF := { ntmps := 6, res := [.cell 2 true 2], body :=
 (.seq (.region [⟨(some 2), none, (.alloc [(.int .i64 0), (.int .i64 0)]), []⟩])
 (.seq (.region [⟨(some 3), none, .mov, [.tm 0]⟩,
  ⟨(some 4), none, .mov, [.tm 0]⟩,
  ⟨(some 5), none, (.build [(.int .i64 0), (.int .i64 0)] [(0, 1), (1, 1)]), [.tm 3, .tm 4]⟩,
  ⟨none, none, (.store 2), [.tm 2, .tm 5]⟩])
 .ret)) }
theorem v53_is : vfunc Try.prog Try.f53 = some v53 := by kernel_rfl
def v50 : VF := { ntmps := 21, res := [.tmp 2], body :=
 (.seq (.region [⟨(some 1), none, .box, [.tm 0]⟩,
  ⟨(some 2), none, .mov, [.cn (.bool false)]⟩])
 (.seq (.region [⟨(some 3), none, (.fieldAddr 0), [.tm 1]⟩,
  ⟨(some 4), none, (.load false 1), [.tm 3]⟩,
  ⟨(some 5), none, (.call 32), [.tm 4, .cn (.int .i64 1000), .cn (.int .i64 100000)]⟩,
  ⟨(some 6), none, .mov, [.tm 5]⟩,
  ⟨(some 7), (some (6, true)), (.fieldAddr 1), [.tm 1]⟩,
  ⟨(some 8), (some (6, true)), (.load false 1), [.tm 7]⟩,
  ⟨(some 9), (some (6, true)), (.call 32), [.tm 8, .cn (.int .i64 10000), .cn (.int .i64 1000000)]⟩,
  ⟨(some 10), none, .and, [.tm 6, .tm 9]⟩,
  ⟨(some 11), none, .mov, [.tm 10]⟩,
  ⟨(some 12), (some (11, true)), (.fieldAddr 2), [.tm 1]⟩,
  ⟨(some 13), (some (11, true)), (.load false 1), [.tm 12]⟩,
  ⟨(some 14), (some (11, true)), (.call 32), [.tm 13, .cn (.int .i64 500), .cn (.int .i64 30000)]⟩,
  ⟨(some 15), none, .and, [.tm 11, .tm 14]⟩,
  ⟨(some 16), none, .mov, [.tm 15]⟩,
  ⟨(some 17), (some (16, true)), (.fieldAddr 3), [.tm 1]⟩,
  ⟨(some 18), (some (16, true)), (.load false 1), [.tm 17]⟩,
  ⟨(some 19), (some (16, true)), (.call 32), [.tm 18, .cn (.int .i64 0), .cn (.int .i64 10000000)]⟩,
  ⟨(some 20), none, .and, [.tm 16, .tm 19]⟩,
  ⟨(some 2), none, .mov, [.tm 20]⟩])
 .ret)) }
theorem v50_is : vfunc Try.prog Try.f50 = some v50 := by kernel_rfl
def v49 : VF := { ntmps := 21, res := [.tmp 2], body :=
 (.seq (.region [⟨(some 1), none, .box, [.tm 0]⟩,
  ⟨(some 2), none, .mov, [.cn (.bool false)]⟩])
 (.seq (.region [⟨(some 3), none, (.fieldAddr 0), [.tm 1]⟩,
  ⟨(some 4), none, (.load false 1), [.tm 3]⟩,
  ⟨(some 5), none, (.cmp .geq), [.tm 4, .cn (.int .i64 100)]⟩,
  ⟨(some 6), none, .mov, [.tm 5]⟩,
  ⟨(some 7), (some (6, true)), (.fieldAddr 0), [.tm 1]⟩,
  ⟨(some 8), (some (6, true)), (.load false 1), [.tm 7]⟩,
  ⟨(some 9), (some (6, true)), (.cmp .leq), [.tm 8, .cn (.int .i64 100000)]⟩,
  ⟨(some 10), none, .and, [.tm 6, .tm 9]⟩,
  ⟨(some 11), none, .mov, [.tm 10]⟩,
  ⟨(some 12), (some (11, true)), (.fieldAddr 1), [.tm 1]⟩,
  ⟨(some 13), (some (11, true)), (.load false 1), [.tm 12]⟩,
  ⟨(some 14), (some (11, true)), (.cmp .geq), [.tm 13, .cn (.int .i64 100)]⟩,
  ⟨(some 15), none, .and, [.tm 11, .tm 14]⟩,
  ⟨(some 16), none, .mov, [.tm 15]⟩,
  ⟨(some 17), (some (16, true)), (.fieldAddr 1), [.tm 1]⟩,
  ⟨(some 18), (some (16, true)), (.load false 1), [.tm 17]⟩,
  ⟨(some 19), (some (16, true)), (.cmp .leq), [.tm 18, .cn (.int .i64 1000)]⟩,
  ⟨(some 20), none, .and, [.tm 16, .tm 19]⟩,
  ⟨(some 2), none, .mov, [.tm 20]⟩])
 .ret)) }
theorem v49_is : vfunc Try.prog Try.f49 = some v49 := by kernel_rfl
def v30 : VF := { ntmps := 18, res := [.tmp 2], body :=
 (.seq (.region [⟨(some 1), none, .box, [.tm 0]⟩,
  ⟨(some 2), none, .mov, [.cn (.bool false)]⟩])
 (.seq (.seq (.region [⟨(some 3), none, .mov, [.cn (.int .i64 0)]⟩])
 (.block 0 (.loop (.seq (.seq (.region [⟨(some 4), none, .mov, [.tm 3]⟩,
  ⟨(some 5), none, (.fieldAddr 0), [.tm 1]⟩,
  ⟨(some 6), none, (.load false 1), [.tm 5]⟩,
  ⟨(some 7), none, .len, [.tm 6]⟩,
  ⟨(some 8), none, (.cmp .lss), [.tm 4, .tm 7]⟩])
 (.cond (.tm 8) .skip
  (.exit 0)))
 (.seq (.block 1 (.seq (.region [⟨(some 11), none, (.fieldAddr 0), [.tm 1]⟩,
  ⟨(some 12), none, (.load false 1), [.tm 11]⟩,
  ⟨(some 13), none, .mov, [.tm 3]⟩,
  ⟨(some 14), none, (.idxAddr 2), [.tm 12, .tm 13]⟩,
  ⟨(some 15), none, (.load true 2), [.tm 14]⟩,
  ⟨(some 16), none, (.call 49), [.tm 15]⟩,
  ⟨(some 17), none, .not, [.tm 16]⟩])
 (.cond (.tm 17) (.seq (.region [⟨(some 2), none, .mov, [.cn (.bool false)]⟩])
 .ret)
  .skip)))
 (.region [⟨(some 9), none, .mov, [.tm 3]⟩,
  ⟨(some 10), none, (.ari .add), [.tm 9, .cn (.int .i64 1)]⟩,
  ⟨(some 3), none, .mov, [.tm 10]⟩]))))))
 (.seq (.region [⟨(some 2), none, .mov, [.cn (.bool true)]⟩])
 .ret))) }
theorem v30_is : vfunc Try.prog Try.f30 = some v30 := by kernel_rfl
def v31 : VF := { ntmps := 16, res := [.tmp 2], body :=
 (.seq (.region [⟨(some 2), none, .mov, [.cn (.bool false)]⟩])
 (.seq (.seq (.region [⟨(some 3), none, .mov, [.cn (.int .i64 0)]⟩])
 (.block 0 (.loop (.seq (.seq (.region [⟨(some 4), none, .mov, [.tm 3]⟩,
  ⟨(some 5), none, .mov, [.tm 0]⟩,
  ⟨(some 6), none, .len, [.tm 5]⟩,
  ⟨(some 7), none, (.cmp .lss), [.tm 4, .tm 6]⟩])
 (.cond (.tm 7) .skip
  (.exit 0)))
 (.seq (.block 1 (.seq (.region [⟨(some 10), none, .mov, [.tm 0]⟩,
  ⟨(some 11), none, .mov, [.tm 3]⟩,
  ⟨(some 12), none, (.idxAddr 4), [.tm 10, .tm 11]⟩,
  ⟨(some 13), none, (.load true 4), [.tm 12]⟩,
  ⟨(some 14), none, (.call 50), [.tm 13]⟩,
  ⟨(some 15), none, .not, [.tm 14]⟩])
 (.cond (.tm 15) (.seq (.region [⟨(some 2), none, .mov, [.cn (.bool false)]⟩])
 .ret)
  .skip)))
 (.region [⟨(some 8), none, .mov, [.tm 3]⟩,
  ⟨(some 9), none, (.ari .add), [.tm 8, .cn (.int .i64 1)]⟩,
  ⟨(some 3), none, .mov, [.tm 9]⟩]))))))
 (.seq (.region [⟨(some 2), none, .mov, [.cn (.bool true)]⟩])
 .ret))) }
theorem v31_is : vfunc Try.prog Try.f31 = some v31 := by kernel_rfl
def v51 : VF := { ntmps := 17, res := [.tmp 2], body :=
 (.seq (.region [⟨(some 1), none, .box, [.tm 0]⟩,
  ⟨(some 2), none, .mov, [.cn (.int .i64 0)]⟩])
 (.seq (.region [⟨(some 3), none, (.fieldAddr 0), [.tm 1]⟩,
  ⟨(some 4), none, (.load false 1), [.tm 3]⟩,
  ⟨(some 5), none, (.fieldAddr 1), [.tm 1]⟩,
  ⟨(some 6), none, (.load false 1), [.tm 5]⟩,
  ⟨(some 7), none, (.ari .mul), [.tm 4, .tm 6]⟩,
  ⟨(some 8), none, (.fieldAddr 2), [.tm 1]⟩,
  ⟨(some 9), none, (.load false 1), [.tm 8]⟩,
  ⟨(some 10), none, (.fieldAddr 0), [.tm 1]⟩,
  ⟨(some 11), none, (.load false 1), [.tm 10]⟩,
  ⟨(some 12), none, (.fieldAddr 1), [.tm 1]⟩,
  ⟨(some 13), none, (.load false 1), [.tm 12]⟩,
  ⟨(some 14), none, (.ari .add), [.tm 11, .tm 13]⟩,
  ⟨(some 15), none, (.ari .mul), [.tm 9, .tm 14]⟩,
  ⟨(some 16), none, .min, [.tm 7, .tm 15]⟩,
  ⟨(some 2), none, .mov, [.tm 16]⟩])
 .ret)) }
theorem v51_is : vfunc Try.prog Try.f51 = some v51 := by kernel_rfl
def v56 : VF := { ntmps := 27, res := [.cell 4 true 2], body :=
 (.seq (.region [⟨(some 2), none, .box, [.tm 0]⟩,
  ⟨(some 4), none, (.alloc [(.int .i64 0), (.int .i64 0)]), []⟩])
 (.seq (.region [⟨(some 8), none, (.fieldAddr 0), [.tm 2]⟩,
  ⟨(some 9), none, (.load false 1), [.tm 8]⟩,
  ⟨(some 10), none, (.fieldAddr 1), [.tm 2]⟩,
  ⟨(some 11), none, (.load false 1), [.tm 10]⟩,
  ⟨(some 12), none, (.ari .mul), [.tm 9, .tm 11]⟩,
  ⟨(some 13), none, (.call 53), [.tm 12]⟩,
  ⟨(some 14), none, .mov, [.tm 1]⟩,
  ⟨(some 15), none, (.call 73), [.tm 13, .tm 14, .cn (.int .i64 1000000)]⟩,
  ⟨(some 7), none, .mov, [.tm 15]⟩,
  ⟨(some 16), none, (.ext 0), [.tm 7]⟩,
  ⟨(some 17), none, (.ext 1), [.tm 7]⟩,
  ⟨(some 5), none, (.alloc [(.int .i64 0), (.int .i64 0)]), []⟩,
  ⟨none, none, (.store 2), [.tm 5, .tm 16]⟩,
  ⟨(some 6), none, .mov, [.tm 17]⟩])
 (.seq (.draw [] [⟨⟨(some 19), none, (.load true 2), [.tm 5]⟩, []⟩,
  ⟨⟨(some 20), none, (.fieldAddr 3), [.tm 2]⟩, []⟩,
  ⟨⟨(some 21), none, (.load false 1), [.tm 20]⟩, []⟩,
  ⟨⟨(some 22), none, (.call 53), [.tm 21]⟩, []⟩,
  ⟨⟨(some 23), none, (.call 54), [.tm 19, .tm 22]⟩, []⟩,
  ⟨⟨(some 18), none, .mov, [.tm 23]⟩, []⟩,
  ⟨⟨(some 24), none, (.ext 0), [.tm 18]⟩, []⟩,
  ⟨⟨(some 25), none, (.ext 1), [.tm 18]⟩, []⟩,
  ⟨⟨none, none, (.store 2), [.tm 5, .tm 24]⟩, []⟩])
 (.seq (.region [⟨(some 26), none, (.load true 2), [.tm 5]⟩,
  ⟨none, none, (.store 2), [.tm 4, .tm 26]⟩])
 .ret)))) }
theorem v56_is : vfunc Try.prog Try.f56 = some v56 := by kernel_rfl
def v34 : VF := { ntmps := 33, res := [.cell 2 true 2], body :=
 (.seq (.region [⟨(some 1), none, .box, [.tm 0]⟩,
  ⟨(some 2), none, (.alloc [(.int .i64 0), (.int .i64 0)]), []⟩])
 (.seq (.region [⟨(some 7), none, (.build [(.int .i64 0), (.int .i64 0)] []), []⟩,
  ⟨(some 3), none, (.alloc [(.int .i64 0), (.int .i64 0)]), []⟩,
  ⟨none, none, (.store 2), [.tm 3, .tm 7]⟩])
 (.seq (.seq (.region [⟨(some 4), none, .mov, [.cn (.int .i64 0)]⟩])
 (.block 0 (.loop (.seq (.seq (.region [⟨(some 8), none, .mov, [.tm 4]⟩,
  ⟨(some 9), none, (.fieldAddr 0), [.tm 1]⟩,
  ⟨(some 10), none, (.load false 1), [.tm 9]⟩,
  ⟨(some 11), none, .len, [.tm 10]⟩,
  ⟨(some 12), none, (.cmp .lss), [.tm 8, .tm 11]⟩])
 (.cond (.tm 12) .skip
  (.exit 0)))
 (.seq (.block 1 (.seq (.region [⟨(some 16), none, (.fieldAddr 0), [.tm 1]⟩,
  ⟨(some 17), none, (.load false 1), [.tm 16]⟩,
  ⟨(some 18), none, .mov, [.tm 4]⟩,
  ⟨(some 19), none, (.idxAddr 2), [.tm 17, .tm 18]⟩,
  ⟨(some 20), none, (.fieldAddr 0), [.tm 19]⟩,
  ⟨(some 21), none, (.load false 1), [.tm 20]⟩,
  ⟨(some 22), none, (.call 53), [.tm 21]⟩,
  ⟨(some 23), none, (.call 52), [.tm 22]⟩,
  ⟨(some 15), none, .mov, [.tm 23]⟩,
  ⟨(some 24), none, (.ext 0), [.tm 15]⟩,
  ⟨(some 25), none, (.ext 1), [.tm 15]⟩,
  ⟨(some 5), none, (.alloc [(.int .i64 0), (.int .i64 0)]), []⟩,
  ⟨none, none, (.store 2), [.tm 5, .tm 24]⟩,
  ⟨(some 6), none, .mov, [.tm 25]⟩])
 (.region [⟨(some 27), none, (.load true 2), [.tm 3]⟩,
  ⟨(some 28), none, (.load true 2), [.tm 5]⟩,
  ⟨(some 29), none, (.call 54), [.tm 27, .tm 28]⟩,
  ⟨(some 26), none, .mov, [.tm 29]⟩,
  ⟨(some 30), none, (.ext 0), [.tm 26]⟩,
  ⟨(some 31), none, (.ext 1), [.tm 26]⟩,
  ⟨none, none, (.store 2), [.tm 3, .tm 30]⟩])))
 (.region [⟨(some 13), none, .mov, [.tm 4]⟩,
  ⟨(some 14), none, (.ari .add), [.tm 13, .cn (.int .i64 1)]⟩,
  ⟨(some 4), none, .mov, [.tm 14]⟩]))))))
 (.seq (.region [⟨(some 32), none, (.load true 2), [.tm 3]⟩,
  ⟨none, none, (.store 2), [.tm 2, .tm 32]⟩])
 .ret)))) }
theorem v34_is : vfunc Try.prog Try.f34 = some v34 := by kernel_rfl
def v33 : VF := { ntmps := 36, res := [.tmp 6], body :=
 (.seq (.region [⟨(some 3), none, .box, [.tm 0]⟩,
  ⟨(some 6), none, .mov, [.cn (.int .i64 0)]⟩])
 (.seq (.region [⟨(some 7), none, .mov, [.cn (.int .i64 0)]⟩])
 (.seq (.seq (.region [⟨(some 8), none, .mov, [.cn (.int .i64 0)]⟩])
 (.block 0 (.loop (.seq (.seq (.region [⟨(some 9), none, .mov, [.tm 8]⟩,
  ⟨(some 10), none, .mov, [.tm 1]⟩,
  ⟨(some 11), none, .len, [.tm 10]⟩,
  ⟨(some 12), none, (.cmp .lss), [.tm 9, .tm 11]⟩])
 (.cond (.tm 12) .skip
  (.exit 0)))
 (.seq (.block 1 (.region [⟨(some 15), none, .mov, [.tm 7]⟩,
  ⟨(some 16), none, .mov, [.tm 1]⟩,
  ⟨(some 17), none, .mov, [.tm 8]⟩,
  ⟨(some 18), none, (.idxAddr 4), [.tm 16, .tm 17]⟩,
  ⟨(some 19), none, (.load true 4), [.tm 18]⟩,
  ⟨(some 20), none, (.call 51), [.tm 19]⟩,
  ⟨(some 21), none, (.ari .add), [.tm 15, .tm 20]⟩,
  ⟨(some 7), none, .mov, [.tm 21]⟩]))
 (.region [⟨(some 13), none, .mov, [.tm 8]⟩,
  ⟨(some 14), none, (.ari .add), [.tm 13, .cn (.int .i64 1)]⟩,
  ⟨(some 8), none, .mov, [.tm 14]⟩]))))))
 (.seq (.seq (.region [⟨(some 22), none, .mov, [.tm 7]⟩,
  ⟨(some 23), none, (.ari .mul), [.cn (.int .i64 100), .tm 22]⟩,
  ⟨(some 24), none, .mov, [.tm 2]⟩,
  ⟨(some 25), none, (.fieldAddr 1), [.tm 3]⟩,
  ⟨(some 26), none, (.load false 1), [.tm 25]⟩,
  ⟨(some 27), none, (.ari .mul), [.tm 24, .tm 26]⟩,
  ⟨(some 28), none, (.cmp .geq), [.tm 23, .tm 27]⟩])
 (.cond (.tm 28) (.seq (.region [⟨(some 6), none, .mov, [.cn (.int .i64 1)]⟩])
 .ret)
  .skip))
 (.seq (.seq (.region [⟨(some 29), none, .mov, [.tm 7]⟩,
  ⟨(some 30), none, (.ari .mul), [.cn (.int .i64 100), .tm 29]⟩,
  ⟨(some 31), none, .mov, [.tm 2]⟩,
  ⟨(some 32), none, (.fieldAddr 0), [.tm 3]⟩,
  ⟨(some 33), none, (.load false 1), [.tm 32]⟩,
  ⟨(some 34), none, (.ari .mul), [.tm 31, .tm 33]⟩,
  ⟨(some 35), none, (.cmp .lss), [.tm 30, .tm 34]⟩])
 (.cond (.tm 35) (.seq (.region [⟨(some 6), none, .mov, [.cn (.int .i64 (-1))]⟩])
 .ret)
  .skip))
 (.seq (.region [⟨(some 6), none, .mov, [.cn (.int .i64 0)]⟩])
 .ret)))))) }
theorem v33_is : vfunc Try.prog Try.f33 = some v33 := by kernel_rfl
def v38 : VF := { ntmps := 25, res := [.tmp 4], body :=
 (.seq (.region [⟨(some 3), none, .box, [.tm 1]⟩,
  ⟨(some 4), none, .mov, [.cn .nil]⟩])
 (.seq (.region [⟨(some 5), none, .mov, [.cn .nil]⟩])
 (.seq (.seq (.region [⟨(some 6), none, .mov, [.cn (.int .i64 0)]⟩])
 (.block 0 (.loop (.seq (.seq (.region [⟨(some 7), none, .mov, [.tm 6]⟩,
  ⟨(some 8), none, .mov, [.tm 0]⟩,
  ⟨(some 9), none, .len, [.tm 8]⟩,
  ⟨(some 10), none, (.cmp .lss), [.tm 7, .tm 9]⟩])
 (.cond (.tm 10) .skip
  (.exit 0)))
 (.seq (.block 1 (.draw [] [⟨⟨(some 13), none, .mov, [.tm 5]⟩, []⟩,
  ⟨⟨(some 14), none, .mov, [.tm 0]⟩, []⟩,
  ⟨⟨(some 15), none, .mov, [.tm 6]⟩, []⟩,
  ⟨⟨(some 16), none, (.idxAddr 4), [.tm 14, .tm 15]⟩, []⟩,
  ⟨⟨(some 17), none, (.load true 4), [.tm 16]⟩, []⟩,
  ⟨⟨(some 18), none, (.fieldAddr 1), [.tm 3]⟩, []⟩,
  ⟨⟨(some 19), none, (.load false 1), [.tm 18]⟩, []⟩,
  ⟨⟨(some 20), none, (.call 56), [.tm 17, .tm 19]⟩, []⟩,
  ⟨⟨(some 21), none, (.field false 1 1), [.tm 20]⟩, []⟩,
  ⟨⟨(some 22), none, (.buildSlice 1 1 [(.int .i64 0)] [(0, 1)]), [.tm 21]⟩, []⟩,
  ⟨⟨(some 23), none, (.append 1 8 [(.int .i64 0)]), [.tm 13, .tm 22]⟩, []⟩,
  ⟨⟨(some 5), none, .mov, [.tm 23]⟩, []⟩]))
 (.region [⟨(some 11), none, .mov, [.tm 6]⟩,
  ⟨(some 12), none, (.ari .add), [.tm 11, .cn (.int .i64 1)]⟩,
  ⟨(some 6), none, .mov, [.tm 12]⟩]))))))
 (.seq (.region [⟨(some 24), none, .mov, [.tm 5]⟩,
  ⟨(some 4), none, .mov, [.tm 24]⟩])
 .ret)))) }
theorem v38_is : vfunc Try.prog Try.f38 = some v38 := by kernel_rfl
def v37 : VF := { ntmps := 95, res := [.tmp 10, .tmp 11], body :=
 (.seq (.region [⟨(some 5), none, .box, [.tm 0]⟩,
  ⟨(some 8), none, .box, [.tm 3]⟩,
  ⟨(some 10), none, .mov, [.cn (.int .i64 0)]⟩,
  ⟨(some 11), none, .mov, [.cn (.bool false)]⟩])
 (.seq (.seq (.region [⟨(some 15), none, .mov, [.tm 4]⟩,
  ⟨(some 16), none, .len, [.tm 15]⟩,
  ⟨(some 17), none, (.cmp .lss), [.tm 16, .cn (.int .i64 1)]⟩,
  ⟨(some 18), none, .mov, [.tm 17]⟩,
  ⟨(some 19), (some (18, false)), .mov, [.tm 4]⟩,
  ⟨(some 20), (some (18, false)), .len, [.tm 19]⟩,
  ⟨(some 21), (some (18, false)), (.cmp .gtr), [.tm 20, .cn (.int .i64 2)]⟩,
  ⟨(some 22), none, .or, [.tm 18, .tm 21]⟩])
 (.cond (.tm 22) (.seq (.region [⟨(some 10), none, .mov, [.cn (.int .i64 0)]⟩,
  ⟨(some 11), none, .mov, [.cn (.bool false)]⟩])
 .ret)
  .skip))
 (.seq (.region [⟨(some 12), none, .mov, [.cn .nil]⟩])
 (.seq (.region [⟨(some 13), none, .mov, [.cn (.int .i64 0)]⟩])
 (.seq (.seq (.region [⟨(some 14), none, .mov, [.cn (.int .i64 0)]⟩])
 (.block 0 (.loop (.seq (.seq (.region [⟨(some 23), none, .mov, [.tm 14]⟩,
  ⟨(some 24), none, .mov, [.tm 4]⟩,
  ⟨(some 25), none, .len, [.tm 24]⟩,
  ⟨(some 26), none, (.cmp .lss), [.tm 23, .tm 25]⟩])
 (.cond (.tm 26) .skip
  (.exit 0)))
 (.seq (.block 1 (.seq (.seq (.draw [] [⟨⟨(some 29), none, .mov, [.tm 4]⟩, []⟩,
  ⟨⟨(some 30), none, .mov, [.tm 14]⟩, []⟩,
  ⟨⟨(some 31), none, (.idxAddr 1), [.tm 29, .tm 30]⟩, []⟩,
  ⟨⟨(some 32), none, (.load false 1), [.tm 31]⟩, []⟩,
  ⟨⟨(some 33), none, (.cmp .lss), [.tm 32, .cn (.int .i64 0)]⟩, []⟩,
  ⟨⟨(some 34), none, .mov, [.tm 33]⟩, []⟩,
  ⟨⟨(some 35), (some (34, false)), .mov, [.tm 4]⟩, []⟩,
  ⟨⟨(some 36), (some (34, false)), .mov, [.tm 14]⟩, []⟩,
  ⟨⟨(some 37), (some (34, false)), (.idxAddr 1), [.tm 35, .tm 36]⟩, []⟩,
  ⟨⟨(some 38), (some (34, false)), (.load false 1), [.tm 37]⟩, []⟩,
  ⟨⟨(some 39), (some (34, false)), .mov, [.tm 2]⟩, []⟩,
  ⟨⟨(some 40), (some (34, false)), .len, [.tm 39]⟩, []⟩,
  ⟨⟨(some 41), (some (34, false)), (.cmp .geq), [.tm 38, .tm 40]⟩, []⟩,
  ⟨⟨(some 42), none, .or, [.tm 34, .tm 41]⟩, []⟩,
  ⟨⟨(some 43), none, .mov, [.tm 42]⟩, []⟩,
  ⟨⟨(some 44), (some (43, false)), .mov, [.tm 14]⟩, []⟩,
  ⟨⟨(some 45), (some (43, false)), (.cmp .gtr), [.tm 44, .cn (.int .i64 0)]⟩, []⟩,
  ⟨⟨(some 46), (some (43, false)), .mov, [.tm 45]⟩, []⟩,
  ⟨⟨(some 47), (some (46, true)), .mov, [.tm 4]⟩, []⟩,
  ⟨⟨(some 48), (some (46, true)), .mov, [.tm 14]⟩, []⟩,
  ⟨⟨(some 49), (some (46, true)), (.idxAddr 1), [.tm 47, .tm 48]⟩, []⟩,
  ⟨⟨(some 50), (some (46, true)), (.load false 1), [.tm 49]⟩, []⟩,
  ⟨⟨(some 51), (some (46, true)), .mov, [.tm 4]⟩, []⟩,
  ⟨⟨(some 52), (some (46, true)), .mov, [.tm 14]⟩, []⟩,
  ⟨⟨(some 53), (some (46, true)), (.ari .sub), [.tm 52, .cn (.int .i64 1)]⟩, []⟩,
  ⟨⟨(some 54), (some (46, true)), (.idxAddr 1), [.tm 51, .tm 53]⟩, []⟩,
  ⟨⟨(some 55), (some (46, true)), (.load false 1), [.tm 54]⟩, []⟩,
  ⟨⟨(some 56), (some (46, true)), (.cmp .lss), [.tm 50, .tm 55]⟩, []⟩,
  ⟨⟨(some 57), (some (43, false)), .and, [.tm 46, .tm 56]⟩, []⟩,
  ⟨⟨(some 58), none, .or, [.tm 43, .tm 57]⟩, []⟩])
 (.cond (.tm 58) (.seq (.region [⟨(some 10), none, .mov, [.cn (.int .i64 0)]⟩,
  ⟨(some 11), none, .mov, [.cn (.bool false)]⟩])
 .ret)
  .skip))
 (.seq (.seq (.draw [] [⟨⟨(some 59), none, .mov, [.tm 1]⟩, []⟩,
  ⟨⟨(some 60), none, .mov, [.tm 4]⟩, []⟩,
  ⟨⟨(some 61), none, .mov, [.tm 14]⟩, []⟩,
  ⟨⟨(some 62), none, (.idxAddr 1), [.tm 60, .tm 61]⟩, []⟩,
  ⟨⟨(some 63), none, (.load false 1), [.tm 62]⟩, []⟩,
  ⟨⟨(some 64), none, (.idxAddr 1), [.tm 59, .tm 63]⟩, []⟩,
  ⟨⟨(some 65), none, (.load false 1), [.tm 64]⟩, []⟩,
  ⟨⟨(some 66), none, (.fieldAddr 2), [.tm 8]⟩, []⟩,
  ⟨⟨(some 67), none, (.load false 1), [.tm 66]⟩, []⟩,
  ⟨⟨(some 68), none, (.cmp .gtr), [.tm 65, .tm 67]⟩, []⟩])
 (.cond (.tm 68) (.seq (.region [⟨(some 10), none, .mov, [.cn (.int .i64 0)]⟩,
  ⟨(some 11), none, .mov, [.cn (.bool false)]⟩])
 .ret)
  .skip))
 (.seq (.region [⟨(some 69), none, .mov, [.tm 13]⟩,
  ⟨(some 70), none, .mov, [.tm 1]⟩,
  ⟨(some 71), none, .mov, [.tm 4]⟩,
  ⟨(some 72), none, .mov, [.tm 14]⟩,
  ⟨(some 73), none, (.idxAddr 1), [.tm 71, .tm 72]⟩,
  ⟨(some 74), none, (.load false 1), [.tm 73]⟩,
  ⟨(some 75), none, (.idxAddr 1), [.tm 70, .tm 74]⟩,
  ⟨(some 76), none, (.load false 1), [.tm 75]⟩,
  ⟨(some 77), none, (.ari .add), [.tm 69, .tm 76]⟩,
  ⟨(some 13), none, .mov, [.tm 77]⟩])
 (.region [⟨(some 78), none, .mov, [.tm 12]⟩,
  ⟨(some 79), none, .mov, [.tm 2]⟩,
  ⟨(some 80), none, .mov, [.tm 4]⟩,
  ⟨(some 81), none, .mov, [.tm 14]⟩,
  ⟨(some 82), none, (.idxAddr 1), [.tm 80, .tm 81]⟩,
  ⟨(some 83), none, (.load false 1), [.tm 82]⟩,
  ⟨(some 84), none, (.idxAddr 4), [.tm 79, .tm 83]⟩,
  ⟨(some 85), none, (.load true 4), [.tm 84]⟩,
  ⟨(some 86), none, (.buildSlice 4 1 [(.int .i64 0), (.int .i64 0), (.int .i64 0), (.int .i64 0)] [(0, 4)]), [.tm 85]⟩,
  ⟨(some 87), none, (.append 4 32 [(.int .i64 0), (.int .i64 0), (.int .i64 0), (.int .i64 0)]), [.tm 78, .tm 86]⟩,
  ⟨(some 12), none, .mov, [.tm 87]⟩])))))
 (.region [⟨(some 27), none, .mov, [.tm 14]⟩,
  ⟨(some 28), none, (.ari .add), [.tm 27, .cn (.int .i64 1)]⟩,
  ⟨(some 14), none, .mov, [.tm 28]⟩]))))))
 (.seq (.region [⟨(some 88), none, .mov, [.tm 13]⟩,
  ⟨(some 89), none, (.load true 2), [.tm 5]⟩,
  ⟨(some 90), none, .mov, [.tm 12]⟩,
  ⟨(some 91), none, (.fieldAddr 0), [.tm 8]⟩,
  ⟨(some 92), none, (.load false 1), [.tm 91]⟩,
  ⟨(some 93), none, (.call 33), [.tm 89, .tm 90, .tm 92]⟩,
  ⟨(some 94), none, (.cmp .eql), [.tm 93, .cn (.int .i64 1)]⟩,
  ⟨(some 10), none, .mov, [.tm 88]⟩,
  ⟨(some 11), none, .mov, [.tm 94]⟩])
 .ret)))))) }
theorem v37_is : vfunc Try.prog Try.f37 = some v37 := by kernel_rfl
def v11 : VF := { ntmps := 21, res := [.tmp 8, .tmp 9], body :=
 (.seq (.region [⟨(some 4), none, .box, [.tm 0]⟩,
  ⟨(some 6), none, .box, [.tm 2]⟩,
  ⟨(some 8), none, .mov, [.cn (.int .i64 0)]⟩,
  ⟨(some 9), none, .mov, [.cn (.bool false)]⟩])
 (.seq (.draw [] [⟨⟨(some 10), none, (.load true 1), [.tm 4]⟩, []⟩,
  ⟨⟨(some 12), none, .mov, [.tm 1]⟩, []⟩,
  ⟨⟨(some 13), none, (.load true 3), [.tm 6]⟩, []⟩,
  ⟨⟨(some 15), none, .mov, [.tm 1]⟩, []⟩,
  ⟨⟨(some 16), none, (.load true 3), [.tm 6]⟩, []⟩,
  ⟨⟨(some 17), none, .mov, [.tm 3]⟩, []⟩,
  ⟨⟨(some 11), none, (.call 34), [.tm 10]⟩, []⟩,
  ⟨⟨(some 14), none, (.call 38), [.tm 12, .tm 13]⟩, []⟩,
  ⟨⟨(some 18), none, (.call 37), [.tm 11, .tm 14, .tm 15, .tm 16, .tm 17]⟩, []⟩,
  ⟨⟨(some 19), none, (.ext 0), [.tm 18]⟩, []⟩,
  ⟨⟨(some 20), none, (.ext 1), [.tm 18]⟩, []⟩,
  ⟨⟨(some 8), none, .mov, [.tm 19]⟩, []⟩,
  ⟨⟨(some 9), none, .mov, [.tm 20]⟩, []⟩])
 .ret)) }
theorem v11_is : vfunc Try.prog Try.f11 = some v11 := by kernel_rfl


def frmC : Ctr := { alias := false, of := fun l => match l with
  | [.int .i64 n, .int .i64 lo, .int .i64 hi] => .fin (.bool (!outN n lo hi)) []
  | _ => noC }
def rtoeC : Ctr := { alias := false, of := fun l => match l with
  | [.agg [.int .i64 x, .int .i64 y]] => .fin (.bool (!toeB (x, y))) []
  | _ => noC }
def rpalC : Ctr := { alias := false, of := fun l => match l with
  | [.agg [.int .i64 w, .int .i64 l, .int .i64 t, .int .i64 s]] => .fin (.bool (!palB ⟨w, l, t, s⟩)) []
  | _ => noC }
theorem nout {n lo hi : Int} : (!outN n lo hi) = (decide (lo ≤ n) && decide (n ≤ hi)) := by
  unfold outN
  rw [Bool.not_or, ← decide_not, ← decide_not]
  congr 1 <;> rw [decide_eq_decide] <;> omega
theorem frm_ok : frmC.ok Try.prog 32 := by
  refine contract Try.func32 v32_is E0_ok 100 frmC fun args k h => ⟨args, ?_⟩
  simp only [frmC] at h
  split at h
  · refine ⟨by simp [leL, le], ?_⟩
    dsimp only [v32, go_sem, Option.bind, Option.map, List.append_nil, Nat.beq, List.cons_append, List.nil_append, List.append_eq, List.map_cons, List.map_nil, ite_self, reduceIte]
    simp only [true_and, and_true, imp_self, implies_true, decide_eq_true_eq, decide_eq_false_iff_not, Nat.reduceAdd, Nat.reduceLeDiff, Bool.not_not, reduceCtorEq, false_imp_iff, Bool.not_eq_true', Bool.not_eq_false', Bool.false_eq_true, and_self, forall_const, ne_eq, not_false_eq_true, Nat.reduceEqDiff]
    have h : k _ [] := h
    rw [nout] at h
    exact ans_bool h
  · exact h.1.elim
def F1 : Env := { ct := fun n => match n with | 32 => some frmC | _ => none, fn := fun _ => none, meth := fun _ _ => none }
theorem F1_ct32 : F1.ct 32 = some frmC := rfl
theorem F1_ok : EnvOk Try.prog F1 := by
  refine ⟨fun f c h => ?_, fun f vf h => ?_, (fun _ _ _ h => by cases h), by kernel_rfl⟩
  · simp only [F1] at h
    split at h
    · cases h; exact ⟨frm_ok, Try.f32, Try.func32, by kernel_rfl, by kernel_rfl⟩
    · cases h
  · cases h

theorem rtoe_ok : rtoeC.ok Try.prog 49 := by
  refine contract Try.func49 v49_is F1_ok 100 rtoeC fun args k h => ⟨args, ?_⟩
  simp only [rtoeC] at h
  split at h
  · refine ⟨by simp [leL, le], ?_⟩
    dsimp only [v49, go_sem, Option.bind, Option.map, List.append_nil, Nat.beq, List.cons_append, List.nil_append, List.append_eq, List.map_cons, List.map_nil, ite_self, reduceIte]
    simp only [true_and, and_true, imp_self, implies_true, decide_eq_true_eq, decide_eq_false_iff_not, Nat.reduceAdd, Nat.reduceLeDiff, Bool.not_not, reduceCtorEq, false_imp_iff, Bool.not_eq_true', Bool.not_eq_false', Bool.false_eq_true, and_self, forall_const, ne_eq, not_false_eq_true, Nat.reduceEqDiff]
    have h : k _ [] := h
    rw [toeB, Bool.not_or, nout, nout, ← Bool.and_assoc] at h
    exact ans_bool h
  · exact h.1.elim
theorem rpal_ok : rpalC.ok Try.prog 50 := by
  refine contract Try.func50 v50_is F1_ok 100 rpalC fun args k h => ⟨args, ?_⟩
  simp only [rpalC] at h
  split at h
  · refine ⟨by simp [leL, le], ?_⟩
    dsimp only [v50, F1_ct32, frmC, go_sem, Option.bind, Option.map, List.append_nil, Nat.beq, List.cons_append, List.nil_append, List.append_eq, List.map_cons, List.map_nil, ite_self, reduceIte]
    simp only [true_and, and_true, imp_self, implies_true, decide_eq_true_eq, decide_eq_false_iff_not, Nat.reduceAdd, Nat.reduceLeDiff, Bool.not_not, reduceCtorEq, false_imp_iff, Bool.not_eq_true', Bool.not_eq_false', Bool.false_eq_true, and_self, forall_const, ne_eq, not_false_eq_true, Nat.reduceEqDiff]
    have h : k _ [] := h
    rw [palB, Bool.not_or, Bool.not_or, Bool.not_or] at h
    exact ans_bool h
  · exact h.1.elim
theorem rone_ok : oneC.ok Try.prog 53 := by
  refine contract Try.func53 v53_is F1_ok 100 oneC fun args k h => ⟨args, ?_⟩
  simp only [oneC] at h
  split at h
  · refine ⟨by simp [leL, le], ?_⟩
    dsimp only [v53, go_sem, Option.bind, Option.map, List.append_nil, Nat.beq, List.cons_append, List.nil_append, List.append_eq, List.map_cons, List.map_nil, ite_self, reduceIte]
    simp only [true_and, and_true, imp_self, implies_true, decide_eq_true_eq, decide_eq_false_iff_not, Nat.reduceAdd, Nat.reduceLeDiff, Bool.not_not, reduceCtorEq, false_imp_iff, Bool.not_eq_true', Bool.not_eq_false', Bool.false_eq_true, and_self, forall_const, ne_eq, not_false_eq_true, Nat.reduceEqDiff]
    exact ans_le (show k _ [] from h) (by simp [expo, view, viewL, leL, le]) (fun _ => by simp [freshS, freshL])
  · exact h.1.elim

def toesC : Ctr := { alias := false, of := fun l => match l with
  | [.agg [.vs _ _ n sz get]] => .ex (List Iv) fun l => .pre (lsP 2 enc2 n sz get l ∧ l.length ≤ 1000000000000) (.fin (.bool (!(l.any toeB))) [])
  | _ => noC }
def palsC : Ctr := { alias := false, of := fun l => match l with
  | [.vs _ _ n sz get] => .ex (List Plt) fun l => .pre (lsP 4 encP n sz get l ∧ l.length ≤ 1000000000000) (.fin (.bool (!(l.any palB))) [])
  | _ => noC }
def F2 : Env := { ct := fun n => match n with | 32 => some frmC | 49 => some rtoeC | 50 => some rpalC | 53 => some oneC | 73 => some sclC | 54 => some addC | 52 => some discC | _ => none, fn := fun _ => none, meth := fun _ _ => none }
theorem F2_ct49 : F2.ct 49 = some rtoeC := rfl
theorem F2_ct50 : F2.ct 50 = some rpalC := rfl
theorem F2_ct53 : F2.ct 53 = some oneC := rfl
theorem F2_ct73 : F2.ct 73 = some sclC := rfl
theorem F2_ct54 : F2.ct 54 = some addC := rfl
theorem F2_ct52 : F2.ct 52 = some discC := rfl
theorem F2_ok : EnvOk Try.prog F2 := by
  refine ⟨fun f c h => ?_, fun f vf h => ?_, (fun _ _ _ h => by cases h), by kernel_rfl⟩
  · simp only [F2] at h
    split at h
    · cases h; exact ⟨frm_ok, Try.f32, Try.func32, by kernel_rfl, by kernel_rfl⟩
    · cases h; exact ⟨rtoe_ok, Try.f49, Try.func49, by kernel_rfl, by kernel_rfl⟩
    · cases h; exact ⟨rpal_ok, Try.f50, Try.func50, by kernel_rfl, by kernel_rfl⟩
    · cases h; exact ⟨rone_ok, Try.f53, Try.func53, by kernel_rfl, by kernel_rfl⟩
    · cases h; exact ⟨rscl_ok, Try.f73, Try.func73, by kernel_rfl, by kernel_rfl⟩
    · cases h; exact ⟨radd_ok, Try.f54, Try.func54, by kernel_rfl, by kernel_rfl⟩
    · cases h; exact ⟨rdisc_ok, Try.f52, Try.func52, by kernel_rfl, by kernel_rfl⟩
    · cases h
  · cases h

theorem toes_ok : toesC.ok Try.prog 30 := by
  refine contract Try.func30 v30_is F2_ok 200 toesC fun args k h => ?_
  simp only [toesC] at h
  split at h
  · rename_i t z n sz get
    obtain ⟨l, ⟨⟨rfl, rfl, hg⟩, hl⟩, h⟩ := h
    refine ⟨[.agg [.vs t z l.length 2 (fun k => enc2 (l.getD k default))]], ⟨by simpa [le, leL] using hg, trivial⟩, ?_⟩
    have h : k (.bool (!(l.any toeB))) [] := h
    dsimp only [v30, enc2, go_sem, Option.bind, Option.map, List.append_nil, Nat.beq, List.cons_append, List.nil_append, List.append_eq, List.map_cons, List.map_nil, ite_self, reduceIte]
    simp only [true_and, and_true, imp_self, implies_true, decide_eq_true_eq, decide_eq_false_iff_not, Nat.reduceAdd, Nat.reduceLeDiff, Bool.not_not, reduceCtorEq, false_imp_iff, Bool.not_eq_true', Bool.not_eq_false', Bool.false_eq_true, and_self, forall_const, ne_eq, not_false_eq_true, Nat.reduceEqDiff]
    obtain ⟨F, hF⟩ : ∃ F, F = toeB := ⟨_, rfl⟩
    rw [← hF] at h
    refine Loop.keep [1, 0] Nat (fun i => [(3, .int .i64 i)]) (fun _ => []) [] (fun i => i ≤ l.length ∧ ∀ j, j < i → F (l.getD j default) = false) (fun i => l.length - i) ?_ ?_
    · refine ⟨0, ⟨Nat.zero_le _, fun j h => by omega⟩, ?_⟩
      dsimp only [go_sem, Option.bind, Option.map, List.append_nil, Nat.beq, List.cons_append, List.nil_append, List.append_eq, List.map_cons, List.map_nil, ite_self, reduceIte]
      simp only [leS_mk, leL_cons, leL_nil, le_junk, le_int, le_bool, le_nil, leLL_nil, leLL_cons, leH_cons, leH_nil, leH1_box, leH1_own, leH1_gone, le_vs, le_agg, le_tup, le_ptr, le_own, le_xp, le_fn, le_opt, le_val, le_elem, le_nil_own, le_nil_vs, leH_ghost, leL_chunk, leXL_id, bnd_int, bnd_bool, bnd_val, bnd_nil, bnd_junk, bnd_vs, bnd_xp, bnd_agg, bnd_tup, bnd_ptr, bnd_own, bnd_elem, bnd_fn, bnd_iface, bnd_opt, bndL_nil, bndL_cons, lenH_cons, lenH_nil, imp_self, implies_true, true_and, and_true]
      simp
    · rintro i ⟨hi, ha⟩
      dsimp only [F2_ct49, rtoeC, enc2, Int.toNat_natCast, go_sem, Option.bind, Option.map, List.append_nil, Nat.beq, List.cons_append, List.nil_append, List.append_eq, List.map_cons, List.map_nil, ite_self, reduceIte]
      simp only [true_and, and_true, imp_self, implies_true, decide_eq_true_eq, decide_eq_false_iff_not, Nat.reduceAdd, Nat.reduceLeDiff, Bool.not_not, reduceCtorEq, false_imp_iff, Bool.not_eq_true', Bool.not_eq_false', Bool.false_eq_true, and_self, forall_const, ne_eq, not_false_eq_true, Nat.reduceEqDiff]
      simp only [show toeB (((l.getD i default).1, (l.getD i default).2)) = F (l.getD i default) by rw [hF]]
      refine ⟨fun hlt => ⟨⟨by omega, hlt⟩, fun hb => ?_, fun hb => ?_⟩, fun hge => ?_⟩
      · have e : l.any F = true := List.any_eq_true.2 ⟨_, getD_mem (by omega : i < l.length), hb⟩
        exact ans_bool (by rw [e] at h; exact h)
      · refine ⟨i + 1, ⟨by omega, fun j hj => ?_⟩, by omega, ?_⟩
        · rcases Nat.lt_or_ge j i with h' | h'
          · exact ha j h'
          · obtain rfl : j = i := by omega
            exact hb
        · simp only [w_succ (i := i) (n := l.length) (by omega) (by omega), leS_mk, leL_cons, leL_nil, le_junk, le_int, le_bool, le_nil, leLL_nil, leLL_cons, leH_cons, leH_nil, leH1_box, leH1_own, leH1_gone, le_vs, le_agg, le_tup, le_ptr, le_own, le_xp, le_fn, le_opt, le_val, le_elem, le_nil_own, le_nil_vs, leH_ghost, leL_chunk, leXL_id, bnd_int, bnd_bool, bnd_val, bnd_nil, bnd_junk, bnd_vs, bnd_xp, bnd_agg, bnd_tup, bnd_ptr, bnd_own, bnd_elem, bnd_fn, bnd_iface, bnd_opt, bndL_nil, bndL_cons, lenH_cons, lenH_nil, imp_self, implies_true, true_and, and_true] <;> simp
      · have e : l.any F = false := List.any_eq_false.2 fun x hx => by
          obtain ⟨j, hj, rfl⟩ := mem_getD hx
          rw [ha j (by omega)]; simp
        exact ans_bool (by rw [e] at h; exact h)
  · exact h.1.elim
theorem pals_ok : palsC.ok Try.prog 31 := by
  refine contract Try.func31 v31_is F2_ok 200 palsC fun args k h => ?_
  simp only [palsC] at h
  split at h
  · rename_i t z n sz get
    obtain ⟨l, ⟨⟨rfl, rfl, hg⟩, hl⟩, h⟩ := h
    refine ⟨[.vs t z l.length 4 (fun k => encP (l.getD k default))], ⟨by simpa [le, leL] using hg, trivial⟩, ?_⟩
    have h : k (.bool (!(l.any palB))) [] := h
    dsimp only [v31, encP, go_sem, Option.bind, Option.map, List.append_nil, Nat.beq, List.cons_append, List.nil_append, List.append_eq, List.map_cons, List.map_nil, ite_self, reduceIte]
    simp only [true_and, and_true, imp_self, implies_true, decide_eq_true_eq, decide_eq_false_iff_not, Nat.reduceAdd, Nat.reduceLeDiff, Bool.not_not, reduceCtorEq, false_imp_iff, Bool.not_eq_true', Bool.not_eq_false', Bool.false_eq_true, and_self, forall_const, ne_eq, not_false_eq_true, Nat.reduceEqDiff]
    obtain ⟨F, hF⟩ : ∃ F, F = palB := ⟨_, rfl⟩
    rw [← hF] at h
    refine Loop.keep [0, 1] Nat (fun i => [(3, .int .i64 i)]) (fun _ => []) [] (fun i => i ≤ l.length ∧ ∀ j, j < i → F (l.getD j default) = false) (fun i => l.length - i) ?_ ?_
    · refine ⟨0, ⟨Nat.zero_le _, fun j h => by omega⟩, ?_⟩
      dsimp only [go_sem, Option.bind, Option.map, List.append_nil, Nat.beq, List.cons_append, List.nil_append, List.append_eq, List.map_cons, List.map_nil, ite_self, reduceIte]
      simp only [leS_mk, leL_cons, leL_nil, le_junk, le_int, le_bool, le_nil, leLL_nil, leLL_cons, leH_cons, leH_nil, leH1_box, leH1_own, leH1_gone, le_vs, le_agg, le_tup, le_ptr, le_own, le_xp, le_fn, le_opt, le_val, le_elem, le_nil_own, le_nil_vs, leH_ghost, leL_chunk, leXL_id, bnd_int, bnd_bool, bnd_val, bnd_nil, bnd_junk, bnd_vs, bnd_xp, bnd_agg, bnd_tup, bnd_ptr, bnd_own, bnd_elem, bnd_fn, bnd_iface, bnd_opt, bndL_nil, bndL_cons, lenH_cons, lenH_nil, imp_self, implies_true, true_and, and_true]
      simp
    · rintro i ⟨hi, ha⟩
      dsimp only [F2_ct50, rpalC, encP, Int.toNat_natCast, go_sem, Option.bind, Option.map, List.append_nil, Nat.beq, List.cons_append, List.nil_append, List.append_eq, List.map_cons, List.map_nil, ite_self, reduceIte]
      simp only [true_and, and_true, imp_self, implies_true, decide_eq_true_eq, decide_eq_false_iff_not, Nat.reduceAdd, Nat.reduceLeDiff, Bool.not_not, reduceCtorEq, false_imp_iff, Bool.not_eq_true', Bool.not_eq_false', Bool.false_eq_true, and_self, forall_const, ne_eq, not_false_eq_true, Nat.reduceEqDiff]
      simp only [show palB ⟨(l.getD i default).w, (l.getD i default).l, (l.getD i default).t, (l.getD i default).s⟩ = F (l.getD i default) by rw [hF]]
      refine ⟨fun hlt => ⟨⟨by omega, hlt⟩, fun hb => ?_, fun hb => ?_⟩, fun hge => ?_⟩
      · have e : l.any F = true := List.any_eq_true.2 ⟨_, getD_mem (by omega : i < l.length), hb⟩
        exact ans_bool (by rw [e] at h; exact h)
      · refine ⟨i + 1, ⟨by omega, fun j hj => ?_⟩, by omega, ?_⟩
        · rcases Nat.lt_or_ge j i with h' | h'
          · exact ha j h'
          · obtain rfl : j = i := by omega
            exact hb
        · simp only [w_succ (i := i) (n := l.length) (by omega) (by omega), leS_mk, leL_cons, leL_nil, le_junk, le_int, le_bool, le_nil, leLL_nil, leLL_cons, leH_cons, leH_nil, leH1_box, leH1_own, leH1_gone, le_vs, le_agg, le_tup, le_ptr, le_own, le_xp, le_fn, le_opt, le_val, le_elem, le_nil_own, le_nil_vs, leH_ghost, leL_chunk, leXL_id, bnd_int, bnd_bool, bnd_val, bnd_nil, bnd_junk, bnd_vs, bnd_xp, bnd_agg, bnd_tup, bnd_ptr, bnd_own, bnd_elem, bnd_fn, bnd_iface, bnd_opt, bndL_nil, bndL_cons, lenH_cons, lenH_nil, imp_self, implies_true, true_and, and_true] <;> simp
      · have e : l.any F = false := List.any_eq_false.2 fun x hx => by
          obtain ⟨j, hj, rfl⟩ := mem_getD hx
          rw [ha j (by omega)]; simp
        exact ans_bool (by rw [e] at h; exact h)
  · exact h.1.elim
theorem ropen_ok : openC.ok Try.prog 51 := by
  refine contract Try.func51 v51_is F2_ok 100 openC fun args k h => ⟨args, ?_⟩
  simp only [openC] at h
  split at h
  · rename_i w l t s
    obtain ⟨hp, h⟩ := h
    refine ⟨by simp [leL, le], ?_⟩
    obtain ⟨h1, h2, h3, h4⟩ := pal_rng hp
    obtain ⟨_, _, h5, h6⟩ := open_rng hp
    dsimp only at h1 h2 h3 h4 h5 h6
    have h : k (.int .i64 (min (w * l) (t * (w + l)))) [] := h
    dsimp only [v51, go_sem, Option.bind, Option.map, List.append_nil, Nat.beq, List.cons_append, List.nil_append, List.append_eq, List.map_cons, List.map_nil, ite_self, reduceIte]
    simp only [true_and, and_true, imp_self, implies_true, decide_eq_true_eq, decide_eq_false_iff_not, Nat.reduceAdd, Nat.reduceLeDiff, Bool.not_not, reduceCtorEq, false_imp_iff, Bool.not_eq_true', Bool.not_eq_false', Bool.false_eq_true, and_self, forall_const, ne_eq, not_false_eq_true, Nat.reduceEqDiff]
    rw [w6_raw (x := w + l) (by omega) (by omega), w6_raw (x := w * l) (by omega) (by omega), w6_raw (x := t * (w + l)) (by omega) (by omega)]
    exact ans_int h
  · exact h.1.elim
theorem add_in {a b : Iv} (h1 : 0 ≤ a.1 ∧ a.1 ≤ a.2 ∧ a.2 ≤ 100000000000000) (h2 : 0 ≤ b.1 ∧ b.1 ≤ b.2 ∧ b.2 ≤ 1000000000000) : addF a b = ((a.1 + b.1, a.2 + b.2), 0) := by
  have h5 : ivE [a, b] = 0 := by
    unfold ivE
    rw [if_pos (by simp [numOk]; omega), if_pos (by simp; omega)]
  unfold addF fitF
  rw [if_neg (by rw [h5]; simp), if_pos (by rw [Bool.and_eq_true, numOk_iff, numOk_iff]; omega)]
theorem rforce_ok : forceC.ok Try.prog 56 := by
  refine contract Try.func56 v56_is F2_ok 200 forceC fun args k h => ⟨args, ?_⟩
  simp only [forceC, forC] at h
  split at h
  · rename_i w l t s pr
    obtain ⟨⟨hp, hp1, hp2⟩, h⟩ := h
    refine ⟨by simp [leL, le], ?_⟩
    obtain ⟨h1, h2, h3, h4⟩ := pal_rng hp
    obtain ⟨_, _, h5, h6⟩ := open_rng hp
    obtain ⟨f1, f2, f3, f4⟩ := force_rng hp hp1 hp2
    dsimp only at h1 h2 h3 h4 h5 h6
    unfold sclI at f1 f2 f3
    dsimp only at f1 f2 f3
    dsimp only [v56, F2_ct53, F2_ct73, F2_ct54, oneC, sclC, addC, iv2C, enc2, go_sem, Option.bind, Option.map, List.append_nil, Nat.beq, List.cons_append, List.nil_append, List.append_eq, List.map_cons, List.map_nil, ite_self, reduceIte]
    simp only [true_and, and_true, imp_self, implies_true, decide_eq_true_eq, decide_eq_false_iff_not, Nat.reduceAdd, Nat.reduceLeDiff, Bool.not_not, reduceCtorEq, false_imp_iff, Bool.not_eq_true', Bool.not_eq_false', Bool.false_eq_true, and_self, forall_const, ne_eq, not_false_eq_true, Nat.reduceEqDiff]
    rw [w6_raw (x := w * l) (by omega) (by omega)]
    have e := add_in (a := (sclF (w * l, w * l) pr 1000000).1) (b := (s, s)) ⟨f1.1, f3, by omega⟩ ⟨h4.1, Int.le_refl _, by show s ≤ _; omega⟩
    have h : k (.agg (enc2 (forceF ⟨w, l, t, s⟩ pr))) [] := h
    have e2 : (addF (sclF (w * l, w * l) pr 1000000).1 (s, s)).1 = forceF ⟨w, l, t, s⟩ pr := by rw [e]; rfl
    rw [← e2] at h
    exact ⟨by decide, by decide, by decide, by decide, ans_p2 (r := (addF (sclF (w * l, w * l) pr 1000000).1 (s, s)).1) h⟩
  · exact h.1.elim
theorem rarea_ok : areaC.ok Try.prog 34 := by
  refine contract Try.func34 v34_is F2_ok 200 areaC fun args k h => ?_
  simp only [areaC] at h
  split at h
  · rename_i t z n sz get
    obtain ⟨l, ⟨⟨rfl, rfl, hg⟩, hl, hv⟩, h⟩ := h
    refine ⟨[.agg [.vs t z l.length 2 (fun k => enc2 (l.getD k default))]], ⟨by simpa [le, leL] using hg, trivial⟩, ?_⟩
    have h : k (.agg (enc2 (areaF l))) [] := h
    dsimp only [v34, enc2, go_sem, Option.bind, Option.map, List.append_nil, Nat.beq, List.cons_append, List.nil_append, List.append_eq, List.map_cons, List.map_nil, ite_self, reduceIte]
    simp only [true_and, and_true, imp_self, implies_true, decide_eq_true_eq, decide_eq_false_iff_not, Nat.reduceAdd, Nat.reduceLeDiff, Bool.not_not, reduceCtorEq, false_imp_iff, Bool.not_eq_true', Bool.not_eq_false', Bool.false_eq_true, and_self, forall_const, ne_eq, not_false_eq_true, Nat.reduceEqDiff]
    refine Loop.keep [1, 0, 0] Nat (fun i => [(4, .int .i64 i)]) (fun i => [(2, .box (enc2 (areaF (l.take i))))]) [] (fun i => i ≤ l.length) (fun i => l.length - i) ?_ ?_
    · refine ⟨0, Nat.zero_le _, ?_⟩
      dsimp only [enc2, go_sem, Option.bind, Option.map, List.append_nil, Nat.beq, List.cons_append, List.nil_append, List.append_eq, List.map_cons, List.map_nil, ite_self, reduceIte]
      simp only [leS_mk, leL_cons, leL_nil, le_junk, le_int, le_bool, le_nil, leLL_nil, leLL_cons, leH_cons, leH_nil, leH1_box, leH1_own, leH1_gone, le_vs, le_agg, le_tup, le_ptr, le_own, le_xp, le_fn, le_opt, le_val, le_elem, le_nil_own, le_nil_vs, leH_ghost, leL_chunk, leXL_id, bnd_int, bnd_bool, bnd_val, bnd_nil, bnd_junk, bnd_vs, bnd_xp, bnd_agg, bnd_tup, bnd_ptr, bnd_own, bnd_elem, bnd_fn, bnd_iface, bnd_opt, bndL_nil, bndL_cons, lenH_cons, lenH_nil, imp_self, implies_true, true_and, and_true] <;> simp [areaF]
    · rintro i hi
      dsimp only [F2_ct53, F2_ct52, F2_ct54, oneC, discC, ivoC, addC, iv2C, enc2, Int.toNat_natCast, go_sem, Option.bind, Option.map, List.append_nil, Nat.beq, List.cons_append, List.nil_append, List.append_eq, List.map_cons, List.map_nil, ite_self, reduceIte]
      simp only [true_and, and_true, imp_self, implies_true, decide_eq_true_eq, decide_eq_false_iff_not, Nat.reduceAdd, Nat.reduceLeDiff, Bool.not_not, reduceCtorEq, false_imp_iff, Bool.not_eq_true', Bool.not_eq_false', Bool.false_eq_true, and_self, forall_const, ne_eq, not_false_eq_true, Nat.reduceEqDiff]
      refine ⟨fun hlt => ?_, fun hge => ?_⟩
      · have hi' : i < l.length := by omega
        have r1 := area_rng (l := l) hi hv
        have ht := toe_rng (hv _ (getD_mem hi'))
        have hd := discI_rng (b := (l.getD i default).1) (by omega) (by omega)
        have hd2 := discI_le (b := (l.getD i default).1) (by omega) (by omega)
        have e := add_in (a := areaF (l.take i)) (b := discI (l.getD i default).1) ⟨r1.1, r1.2.2.2.2, by omega⟩ ⟨hd.1, hd2, by omega⟩
        refine ⟨⟨by omega, hlt⟩, by decide, by decide, by decide, by decide, i + 1, by omega, by omega, ?_⟩
        have e' : addF ((areaF (l.take i)).1, (areaF (l.take i)).2) ((discF ((l.getD i default).1, (l.getD i default).1)).1.1, (discF ((l.getD i default).1, (l.getD i default).1)).1.2) = ((((areaF (l.take i)).1 + (discI (l.getD i default).1).1, (areaF (l.take i)).2 + (discI (l.getD i default).1).2)), 0) := e
        simp only [w_succ (i := i) (n := l.length) (by omega) (by omega), e', area_take hi', leS_mk, leL_cons, leL_nil, le_junk, le_int, le_bool, le_nil, leLL_nil, leLL_cons, leH_cons, leH_nil, leH1_box, leH1_own, leH1_gone, le_vs, le_agg, le_tup, le_ptr, le_own, le_xp, le_fn, le_opt, le_val, le_elem, le_nil_own, le_nil_vs, leH_ghost, leL_chunk, leXL_id, bnd_int, bnd_bool, bnd_val, bnd_nil, bnd_junk, bnd_vs, bnd_xp, bnd_agg, bnd_tup, bnd_ptr, bnd_own, bnd_elem, bnd_fn, bnd_iface, bnd_opt, bndL_nil, bndL_cons, lenH_cons, lenH_nil, imp_self, implies_true, true_and, and_true] <;> simp
      · rw [take_full (by omega)]
        exact ans_p2 h
  · exact h.1.elim
def enoughC : Ctr := { alias := false, of := fun l => match l with
  | [.agg [.int .i64 x, .int .i64 y], .vs _ _ n sz get, .int .i64 per] => .ex (List Plt) fun l => .pre (lsP 4 encP n sz get l ∧ l.length ≤ 100 ∧ (∀ p ∈ l, palB p = false) ∧ (0 ≤ x ∧ x ≤ 1000000000000) ∧ (0 ≤ y ∧ y ≤ 1000000000000) ∧ 10 ≤ per ∧ per ≤ 1000) (.fin (.int .i64 (cmpF (x, y) (sumO l) per)) [])
  | _ => noC }
def F3 : Env := { ct := fun n => match n with | 51 => some openC | _ => none, fn := fun _ => none, meth := fun _ _ => none }
theorem F3_ct51 : F3.ct 51 = some openC := rfl
theorem F3_ok : EnvOk Try.prog F3 := by
  refine ⟨fun f c h => ?_, fun f vf h => ?_, (fun _ _ _ h => by cases h), by kernel_rfl⟩
  · simp only [F3] at h
    split at h
    · cases h; exact ⟨ropen_ok, Try.f51, Try.func51, by kernel_rfl, by kernel_rfl⟩
    · cases h
  · cases h

theorem renough_ok : enoughC.ok Try.prog 33 := by
  refine contract Try.func33 v33_is F3_ok 200 enoughC fun args k h => ?_
  simp only [enoughC] at h
  split at h
  · rename_i x y t z n sz get per
    obtain ⟨l, ⟨⟨rfl, rfl, hg⟩, hl, hv, ⟨h1, h2⟩, ⟨h3, h4⟩, h7, h8⟩, h⟩ := h
    refine ⟨[.agg [.int .i64 x, .int .i64 y], .vs t z l.length 4 (fun k => encP (l.getD k default)), .int .i64 per], ⟨by simp [le, leL], by simpa [le, leL] using hg, by simp [le], trivial⟩, ?_⟩
    have h : k (.int .i64 (cmpF (x, y) (sumO l) per)) [] := h
    dsimp only [v33, encP, go_sem, Option.bind, Option.map, List.append_nil, Nat.beq, List.cons_append, List.nil_append, List.append_eq, List.map_cons, List.map_nil, ite_self, reduceIte]
    simp only [true_and, and_true, imp_self, implies_true, decide_eq_true_eq, decide_eq_false_iff_not, Nat.reduceAdd, Nat.reduceLeDiff, Bool.not_not, reduceCtorEq, false_imp_iff, Bool.not_eq_true', Bool.not_eq_false', Bool.false_eq_true, and_self, forall_const, ne_eq, not_false_eq_true, Nat.reduceEqDiff]
    refine Loop.keep [1, 0, 0, 2] Nat (fun i => [(7, .int .i64 (sumO (l.take i))), (8, .int .i64 i)]) (fun i => []) [] (fun i => i ≤ l.length) (fun i => l.length - i) ?_ ?_
    · refine ⟨0, Nat.zero_le _, ?_⟩
      dsimp only [go_sem, Option.bind, Option.map, List.append_nil, Nat.beq, List.cons_append, List.nil_append, List.append_eq, List.map_cons, List.map_nil, ite_self, reduceIte]
      simp only [leS_mk, leL_cons, leL_nil, le_junk, le_int, le_bool, le_nil, leLL_nil, leLL_cons, leH_cons, leH_nil, leH1_box, leH1_own, leH1_gone, le_vs, le_agg, le_tup, le_ptr, le_own, le_xp, le_fn, le_opt, le_val, le_elem, le_nil_own, le_nil_vs, leH_ghost, leL_chunk, leXL_id, bnd_int, bnd_bool, bnd_val, bnd_nil, bnd_junk, bnd_vs, bnd_xp, bnd_agg, bnd_tup, bnd_ptr, bnd_own, bnd_elem, bnd_fn, bnd_iface, bnd_opt, bndL_nil, bndL_cons, lenH_cons, lenH_nil, imp_self, implies_true, true_and, and_true] <;> simp [sumO]
    · rintro i hi
      dsimp only [F3_ct51, openC, encP, Int.toNat_natCast, go_sem, Option.bind, Option.map, List.append_nil, Nat.beq, List.cons_append, List.nil_append, List.append_eq, List.map_cons, List.map_nil, ite_self, reduceIte]
      simp only [true_and, and_true, imp_self, implies_true, decide_eq_true_eq, decide_eq_false_iff_not, Nat.reduceAdd, Nat.reduceLeDiff, Bool.not_not, reduceCtorEq, false_imp_iff, Bool.not_eq_true', Bool.not_eq_false', Bool.false_eq_true, and_self, forall_const, ne_eq, not_false_eq_true, Nat.reduceEqDiff, plt_eta]
      refine ⟨fun hlt => ?_, fun hge => ?_⟩
      · have hi' : i < l.length := by omega
        have ho := open_rng (hv _ (getD_mem hi'))
        have hs := sumO_rng (l := l) hi hv
        refine ⟨⟨by omega, hlt⟩, hv _ (getD_mem hi'), i + 1, by omega, by omega, ?_⟩
        rw [w6_raw (x := sumO _ + _) (by omega) (by omega)]
        simp only [w_succ (i := i) (n := l.length) (by omega) (by omega), sumO_take hi', leS_mk, leL_cons, leL_nil, le_junk, le_int, le_bool, le_nil, leLL_nil, leLL_cons, leH_cons, leH_nil, leH1_box, leH1_own, leH1_gone, le_vs, le_agg, le_tup, le_ptr, le_own, le_xp, le_fn, le_opt, le_val, le_elem, le_nil_own, le_nil_vs, leH_ghost, leL_chunk, leXL_id, bnd_int, bnd_bool, bnd_val, bnd_nil, bnd_junk, bnd_vs, bnd_xp, bnd_agg, bnd_tup, bnd_ptr, bnd_own, bnd_elem, bnd_fn, bnd_iface, bnd_opt, bndL_nil, bndL_cons, lenH_cons, lenH_nil, imp_self, implies_true, true_and, and_true] <;> simp
      · obtain rfl : i = l.length := by omega
        rw [take_full (Nat.le_refl _)]
        have hs := sumO_all hv hl
        generalize sumO l = o at *
        have m1 : per * x ≤ 1000 * 1000000000000 := mul_le' h8 h2 (by omega) (by omega)
        have m2 : per * y ≤ 1000 * 1000000000000 := mul_le' h8 h4 (by omega) (by omega)
        have m3 : 0 ≤ per * x := Int.mul_nonneg (by omega) h1
        have m4 : 0 ≤ per * y := Int.mul_nonneg (by omega) h3
        rw [w6_raw (x := 100 * o) (by omega) (by omega), w6_raw (x := per * x) (by omega) (by omega), w6_raw (x := per * y) (by omega) (by omega)]
        refine ⟨fun hc => ?_, fun hc => ⟨fun hd => ?_, fun hd => ?_⟩⟩
        · rw [cmpF, if_pos hc] at h; exact ans_int h
        · rw [cmpF, if_neg hc, if_pos hd] at h; exact ans_int h
        · rw [cmpF, if_neg hc, if_neg hd] at h; exact ans_int h
  · exact h.1.elim

/-! ### Choices -/

def forcesF (l : List Plt) (pr : Int) : List Int := l.map fun p => fh p pr
def okI (w : Wsh) (l : List Plt) (x : List Int) (i : Nat) : Bool :=
  !(decide (x.getD i default < 0) || decide ((l.length : Int) ≤ x.getD i default) || (decide (0 < i) && decide (x.getD i default < x.getD (i - 1) default))) && !decide (w.most < fh (l.getD (x.getD i default).toNat default) w.pr)
def okA (w : Wsh) (l : List Plt) (x : List Int) : Bool := (List.range x.length).all fun i => okI w l x i
def chs (l : List Plt) (x : List Int) : List Plt := x.map fun i => l.getD i.toNat default
def wtS (l : List Plt) (x : List Int) (pr : Int) : Int := (chs l x).foldl (fun s p => s + fh p pr) 0
def chcF (a : Iv) (w : Wsh) (l : List Plt) (x : List Int) : Int × Bool :=
  if (decide (x.length < 1) || decide (2 < x.length)) = true then (0, false) else if okA w l x = true then (wtS l x w.pr, decide (cmpF a (sumO (chs l x)) w.per = 1)) else (0, false)
theorem app1 {m n b i : Nat} {L : List Int} {v : Int} (hv : L.getD i default = v) : ∀ k, k < i + 1 → leL m n (if k < i then purgeL b (enc1 (L.getD k default)) else purgeL b (takeL 1 (dropL ((k - i) * 1) [SV.int .i64 v]))) (enc1 (L.getD k default)) := by
  intro k hk
  split
  · exact ⟨⟨rfl, rfl⟩, trivial⟩
  · obtain rfl : k = i := by omega
    rw [Nat.sub_self, hv]
    exact ⟨⟨rfl, rfl⟩, trivial⟩
theorem getD_map {α β : Type} [Inhabited α] [Inhabited β] {l : List α} {f : α → β} {i : Nat} (h : i < l.length) : (l.map f).getD i default = f (l.getD i default) := by
  rw [List.getD_eq_getElem?_getD, List.getD_eq_getElem?_getD, List.getElem?_map, List.getElem?_eq_getElem h]; rfl
theorem ans_ownI {k : SV → List HO → Prop} {al : Bool} {hp : List HO} {L : List Int} {j : Nat} (h : k (vsI L) []) (hg : getH hp j = .own L.isEmpty 1 L.length (fun k => enc1 (L.getD k default))) : answers al k (.own j 0 L.length 1) hp := by
  refine ans_le (show k _ [] from h) ?_ (fun _ => by simp [vsI, enc1, freshS, freshL])
  simp only [vsI, expo, view, hg]
  exact ⟨fun h => h, rfl, rfl, rfl, fun q _ => ⟨⟨rfl, rfl⟩, trivial⟩⟩
def forcesC : Ctr := { alias := false, of := fun l => match l with
  | [.vs _ _ n sz get, .agg [.int .i64 per, .int .i64 pr, .int .i64 most]] => .ex (List Plt) fun l => .pre (lsP 4 encP n sz get l ∧ l.length ≤ 1000 ∧ (∀ p ∈ l, palB p = false) ∧ wshB ⟨per, pr, most⟩ = false) (.fin (vsI (forcesF l pr)) [])
  | _ => noC }
theorem wsh_rng {w : Wsh} (h : wshB w = false) : (10 ≤ w.per ∧ w.per ≤ 1000) ∧ (10 ≤ w.pr ∧ w.pr ≤ 5000) ∧ 0 ≤ w.most ∧ w.most ≤ 1000000000 := by
  unfold wshB at h
  rw [Bool.or_eq_false_iff, Bool.or_eq_false_iff, outN_f, outN_f, outN_f] at h
  exact ⟨h.1.1, h.1.2, h.2⟩
def F4 : Env := { ct := fun n => match n with | 56 => some forceC | 33 => some enoughC | 34 => some areaC | 30 => some toesC | 31 => some palsC | 32 => some frmC | _ => none, fn := fun _ => none, meth := fun _ _ => none }
theorem F4_ct56 : F4.ct 56 = some forceC := rfl
theorem F4_ct33 : F4.ct 33 = some enoughC := rfl
theorem F4_ok : EnvOk Try.prog F4 := by
  refine ⟨fun f c h => ?_, fun f vf h => ?_, (fun _ _ _ h => by cases h), by kernel_rfl⟩
  · simp only [F4] at h
    split at h
    · cases h; exact ⟨rforce_ok, Try.f56, Try.func56, by kernel_rfl, by kernel_rfl⟩
    · cases h; exact ⟨renough_ok, Try.f33, Try.func33, by kernel_rfl, by kernel_rfl⟩
    · cases h; exact ⟨rarea_ok, Try.f34, Try.func34, by kernel_rfl, by kernel_rfl⟩
    · cases h; exact ⟨toes_ok, Try.f30, Try.func30, by kernel_rfl, by kernel_rfl⟩
    · cases h; exact ⟨pals_ok, Try.f31, Try.func31, by kernel_rfl, by kernel_rfl⟩
    · cases h; exact ⟨frm_ok, Try.f32, Try.func32, by kernel_rfl, by kernel_rfl⟩
    · cases h
  · cases h

theorem forces_ok : forcesC.ok Try.prog 38 := by
  refine contract Try.func38 v38_is F4_ok 300 forcesC fun args k h => ?_
  simp only [forcesC] at h
  split at h
  · rename_i t z n sz get per pr most
    obtain ⟨l, ⟨⟨rfl, rfl, hg⟩, hl, hv, hw⟩, h⟩ := h
    refine ⟨[.vs t z l.length 4 (fun k => encP (l.getD k default)), .agg [.int .i64 per, .int .i64 pr, .int .i64 most]], ⟨by simpa [le, leL] using hg, by simp [le, leL], trivial⟩, ?_⟩
    have hr := wsh_rng hw
    dsimp only at hr
    have h : k (vsI (forcesF l pr)) [] := h
    dsimp only [v38, encP, go_sem, Option.bind, Option.map, List.append_nil, Nat.beq, List.cons_append, List.nil_append, List.append_eq, List.map_cons, List.map_nil, ite_self, reduceIte]
    simp only [true_and, and_true, imp_self, implies_true, decide_eq_true_eq, decide_eq_false_iff_not, Nat.reduceAdd, Nat.reduceLeDiff, Bool.not_not, reduceCtorEq, false_imp_iff, Bool.not_eq_true', Bool.not_eq_false', Bool.false_eq_true, and_self, forall_const, ne_eq, not_false_eq_true, Nat.reduceEqDiff]
    refine Loop.keep [0, 2, 0] Nat (fun i => [(5, .own 1 0 i 1), (6, .int .i64 i)]) (fun i => [(1, .own (decide (i = 0)) 1 i (fun k => enc1 ((forcesF l pr).getD k default)))]) [.gone] (fun i => i ≤ l.length) (fun i => l.length - i) ?_ ?_
    · refine ⟨0, Nat.zero_le _, ?_⟩
      dsimp only [go_sem, Option.bind, Option.map, List.append_nil, Nat.beq, List.cons_append, List.nil_append, List.append_eq, List.map_cons, List.map_nil, ite_self, reduceIte]
      simp only [leH_ghost, leS_mk, leL_cons, leL_nil, le_junk, le_int, le_bool, le_nil, leLL_nil, leLL_cons, leH_cons, leH_nil, leH1_box, leH1_own, leH1_gone, le_vs, le_agg, le_tup, le_ptr, le_own, le_xp, le_fn, le_opt, le_val, le_elem, le_nil_own, le_nil_vs, leH_ghost, leL_chunk, leXL_id, bnd_int, bnd_bool, bnd_val, bnd_nil, bnd_junk, bnd_vs, bnd_xp, bnd_agg, bnd_tup, bnd_ptr, bnd_own, bnd_elem, bnd_fn, bnd_iface, bnd_opt, bndL_nil, bndL_cons, lenH_cons, lenH_nil, imp_self, implies_true, true_and, and_true] <;> simp
    · rintro i hi
      dsimp only [F4_ct56, forceC, forC, enc2, encP, Int.toNat_natCast, go_sem, Option.bind, Option.map, List.append_nil, Nat.beq, List.cons_append, List.nil_append, List.append_eq, List.map_cons, List.map_nil, ite_self, reduceIte]
      simp only [true_and, and_true, imp_self, implies_true, decide_eq_true_eq, decide_eq_false_iff_not, Nat.reduceAdd, Nat.reduceLeDiff, Bool.not_not, reduceCtorEq, false_imp_iff, Bool.not_eq_true', Bool.not_eq_false', Bool.false_eq_true, and_self, forall_const, ne_eq, not_false_eq_true, Nat.reduceEqDiff, plt_eta]
      refine ⟨fun hlt => ?_, fun hge => ?_⟩
      · have hi' : i < l.length := by omega
        have hf : forcesF l pr = forcesF l pr := rfl
        refine ⟨⟨by omega, hlt⟩, ⟨hv _ (getD_mem hi'), hr.2.1⟩, by decide, ⟨by unfold capOk; omega, fun k hk => ?_⟩, i + 1, by omega, by omega, ?_⟩
        · obtain rfl : k = 0 := by omega
          exact ⟨rfl, trivial, trivial⟩
        · have e : fh (l.getD i default) pr = (forceF (l.getD i default) pr).2 := rfl
          simp only [w_succ (i := i) (n := l.length) (by omega) (by omega), leS_mk, leL_cons, leL_nil, le_junk, le_int, le_bool, le_nil, leLL_nil, leLL_cons, leH_cons, leH_nil, leH1_box, leH1_own, leH1_gone, le_vs, le_agg, le_tup, le_ptr, le_own, le_xp, le_fn, le_opt, le_val, le_elem, le_nil_own, le_nil_vs, leH_ghost, leL_chunk, leXL_id, bnd_int, bnd_bool, bnd_val, bnd_nil, bnd_junk, bnd_vs, bnd_xp, bnd_agg, bnd_tup, bnd_ptr, bnd_own, bnd_elem, bnd_fn, bnd_iface, bnd_opt, bndL_nil, bndL_cons, lenH_cons, lenH_nil, imp_self, implies_true, true_and, and_true]
          refine ⟨by omega, by simp, app1 (b := 1) ?_⟩
          rw [forcesF, getD_map hi', e]
      · obtain rfl : i = l.length := by omega
        have hlen : (forcesF l pr).length = l.length := List.length_map ..
        rw [← hlen]
        refine ans_ownI (L := forcesF l pr) h ?_
        simp only [getH]
        congr 1
        cases hL : forcesF l pr <;> simp
  · exact h.1.elim
end Go.Proofs.Ytngccjllkgpjmaa

/- Chests, walked: the reference's choices. -/
/- Chests, walked: the reference's choices. -/
set_option linter.all false
namespace Go.Proofs.Ytngccjllkgpjmaa
open Go Go.Vx
set_option maxRecDepth 100000
set_option maxHeartbeats 4000000

def choiC : Ctr := { alias := false, of := fun l => match l with
  | [.agg [.int .i64 a1, .int .i64 a2], .vs _ _ n1 sz1 get1, .vs _ _ n sz get, .agg [.int .i64 per, .int .i64 pr, .int .i64 most], .vs _ _ n2 sz2 get2] =>
    .ex (List Plt) fun l => .ex (List Int) fun x => .pre (lsP 4 encP n sz get l ∧ lsP 1 enc1 n1 sz1 get1 (forcesF l pr) ∧ lsP 1 enc1 n2 sz2 get2 x ∧ l.length ≤ 1000 ∧ x.length ≤ 1000000000000 ∧ (∀ p ∈ l, palB p = false) ∧ wshB ⟨per, pr, most⟩ = false ∧ (0 ≤ a1 ∧ a1 ≤ 1000000000000) ∧ 0 ≤ a2 ∧ a2 ≤ 1000000000000)
      (.fin (.tup [.int .i64 (chcF (a1, a2) ⟨per, pr, most⟩ l x).1, .bool (chcF (a1, a2) ⟨per, pr, most⟩ l x).2]) [])
  | _ => noC }
def wtT (l : List Plt) (x : List Int) (pr : Int) (i : Nat) : Int := wtS l (x.take i) pr

theorem wt_rng {l : List Plt} {x : List Int} {pr : Int} : ∀ {i : Nat}, i ≤ x.length → (∀ j, j < i → 0 ≤ fh (l.getD (x.getD j default).toNat default) pr ∧ fh (l.getD (x.getD j default).toNat default) pr ≤ 510000000) → 0 ≤ wtT l x pr i ∧ wtT l x pr i ≤ 510000000 * i
  | 0, _, _ => by simp [wtT, wtS, chs]
  | i + 1, h, hj => by
    have ih := wt_rng (i := i) (by omega) fun j hj' => hj j (by omega)
    have hi := hj i (by omega)
    have e : wtT l x pr (i + 1) = wtT l x pr i + fh (l.getD (x.getD i default).toNat default) pr := by
      unfold wtT wtS chs
      rw [take_succ_eq (by omega : i < x.length), List.map_append, List.foldl_append]; rfl
    rw [e]; omega
theorem app4 {m n b i : Nat} {L : List Plt} {v : Plt} (hv : L.getD i default = v) : ∀ k, k < i + 1 → leL m n (if k < i then purgeL b [SV.int .i64 (L.getD k default).w, SV.int .i64 (L.getD k default).l, SV.int .i64 (L.getD k default).t, SV.int .i64 (L.getD k default).s] else purgeL b (takeL 4 (dropL ((k - i) * 4) [SV.int .i64 v.w, SV.int .i64 v.l, SV.int .i64 v.t, SV.int .i64 v.s]))) [SV.int .i64 (L.getD k default).w, SV.int .i64 (L.getD k default).l, SV.int .i64 (L.getD k default).t, SV.int .i64 (L.getD k default).s] := by
  intro k hk
  split
  · exact ⟨⟨rfl, rfl⟩, ⟨rfl, rfl⟩, ⟨rfl, rfl⟩, ⟨rfl, rfl⟩, trivial⟩
  · obtain rfl : k = i := by omega
    rw [Nat.sub_self, hv]
    exact ⟨⟨rfl, rfl⟩, ⟨rfl, rfl⟩, ⟨rfl, rfl⟩, ⟨rfl, rfl⟩, trivial⟩
theorem choi_ok : choiC.ok Try.prog 37 := by
  refine contract Try.func37 v37_is F4_ok 300 choiC fun args k h => ?_
  simp only [choiC] at h
  split at h
  · rename_i a1 a2 t1 z1 n1 sz1 get1 t z n sz get per pr most t2 z2 n2 sz2 get2
    obtain ⟨l, x, ⟨⟨rfl, rfl, hg⟩, ⟨rfl, rfl, hg1⟩, ⟨rfl, rfl, hg2⟩, hl, hx, hv, hw, ha1, ha2⟩, h⟩ := h
    refine ⟨[.agg [.int .i64 a1, .int .i64 a2], .vs t1 z1 (forcesF l pr).length 1 (fun k => enc1 ((forcesF l pr).getD k default)), .vs t z l.length 4 (fun k => encP (l.getD k default)), .agg [.int .i64 per, .int .i64 pr, .int .i64 most], .vs t2 z2 x.length 1 (fun k => enc1 (x.getD k default))], ⟨by simp [le, leL], by simpa [le, leL] using hg1, by simpa [le, leL] using hg, by simp [le, leL], by simpa [le, leL] using hg2, trivial⟩, ?_⟩
    have hr := wsh_rng hw
    dsimp only at hr
    have h : k (.tup [.int .i64 (chcF (a1, a2) ⟨per, pr, most⟩ l x).1, .bool (chcF (a1, a2) ⟨per, pr, most⟩ l x).2]) [] := h
    dsimp only [v37, encP, enc1, go_sem, Option.bind, Option.map, List.append_nil, Nat.beq, List.cons_append, List.nil_append, List.append_eq, List.map_cons, List.map_nil, ite_self, reduceIte]
    simp only [true_and, and_true, imp_self, implies_true, decide_eq_true_eq, decide_eq_false_iff_not, Nat.reduceAdd, Nat.reduceLeDiff, Bool.not_not, reduceCtorEq, false_imp_iff, Bool.not_eq_true', Bool.not_eq_false', Bool.false_eq_true, and_self, forall_const, ne_eq, not_false_eq_true, Nat.reduceEqDiff]
    refine ⟨fun hc => ?_, fun hc => ?_⟩
    · have e1 : decide ((x.length : Int) < 1) = decide (x.length < 1) := by rw [decide_eq_decide]; omega
      have e2 : decide ((2 : Int) < (x.length : Int)) = decide (2 < x.length) := by rw [decide_eq_decide]; omega
      rw [e1, e2] at hc
      rw [chcF, if_pos hc] at h
      exact ans_ib h
    · refine Loop.keep [1, 0, 1, 0, 2, 1, 0] Nat (fun i => [(12, .own 2 0 i 4), (13, .int .i64 (wtT l x pr i)), (14, .int .i64 i)]) (fun i => [(2, .own (decide (i = 0)) 4 i (fun k => encP ((chs l x).getD k default)))]) [.gone] (fun i => i ≤ x.length ∧ ∀ j, j < i → okI ⟨per, pr, most⟩ l x j = true) (fun i => x.length - i) ?_ ?_
      · refine ⟨0, ⟨Nat.zero_le _, fun j h => by omega⟩, ?_⟩
        dsimp only [go_sem, Option.bind, Option.map, List.append_nil, Nat.beq, List.cons_append, List.nil_append, List.append_eq, List.map_cons, List.map_nil, ite_self, reduceIte]
        simp only [leH_ghost, leS_mk, leL_cons, leL_nil, le_junk, le_int, le_bool, le_nil, leLL_nil, leLL_cons, leH_cons, leH_nil, leH1_box, leH1_own, leH1_gone, le_vs, le_agg, le_tup, le_ptr, le_own, le_xp, le_fn, le_opt, le_val, le_elem, le_nil_own, le_nil_vs, leH_ghost, leL_chunk, leXL_id, bnd_int, bnd_bool, bnd_val, bnd_nil, bnd_junk, bnd_vs, bnd_xp, bnd_agg, bnd_tup, bnd_ptr, bnd_own, bnd_elem, bnd_fn, bnd_iface, bnd_opt, bndL_nil, bndL_cons, lenH_cons, lenH_nil, imp_self, implies_true, true_and, and_true] <;> simp [wtT, wtS, chs]
      · rintro i ⟨hi, ha⟩
        dsimp only [F4_ct33, enoughC, enc1, encP, Int.toNat_natCast, go_sem, Option.bind, Option.map, List.append_nil, Nat.beq, List.cons_append, List.nil_append, List.append_eq, List.map_cons, List.map_nil, ite_self, reduceIte]
        simp only [true_and, and_true, imp_self, implies_true, decide_eq_true_eq, decide_eq_false_iff_not, Nat.reduceAdd, Nat.reduceLeDiff, Bool.not_not, reduceCtorEq, false_imp_iff, Bool.not_eq_true', Bool.not_eq_false', Bool.false_eq_true, and_self, forall_const, ne_eq, not_false_eq_true, Nat.reduceEqDiff, plt_eta]
        have hc' : x.length = 1 ∨ x.length = 2 := by
          rw [Bool.or_eq_false_iff, decide_eq_false_iff_not, decide_eq_false_iff_not] at hc; omega
        rw [chcF, if_neg (by rw [Bool.or_eq_true, decide_eq_true_eq, decide_eq_true_eq]; omega)] at h
        have hpv : (decide (0 < (i : Int)) && decide (x.getD i default < x.getD (IntKind.i64.wrap ((i : Int) - 1)).toNat default)) = (decide (0 < i) && decide (x.getD i default < x.getD (i - 1) default)) := by
          rcases Nat.eq_zero_or_pos i with rfl | h0
          · rfl
          · have e : (IntKind.i64.wrap ((i : Int) - 1)).toNat = i - 1 := by rw [w6_raw (by omega) (by omega)]; omega
            rw [e, decide_eq_true (show 0 < (i : Int) by omega), decide_eq_true h0]
        have hfl : (forcesF l pr).length = l.length := List.length_map ..
        refine ⟨fun hlt => ?_, fun hge => ?_⟩
        · have hi' : i < x.length := by omega
          refine ⟨⟨by omega, hlt⟩, fun _ => ⟨by omega, hlt⟩, fun _ => ⟨by omega, hlt⟩, fun hh => ?_, fun h1 h2 => ?_, fun hb => ?_, fun hb => ?_⟩
          · rw [Bool.and_eq_true, decide_eq_true_eq] at hh
            rw [w6_raw (by omega) (by omega)]; omega
          · rw [h1, decide_eq_true h2]; rfl
          · rw [hpv] at hb
            have : okA ⟨per, pr, most⟩ l x = false := by
              unfold okA
              rw [List.all_eq_false]
              refine ⟨i, List.mem_range.2 hi', ?_⟩
              unfold okI
              rw [hb]; simp
            rw [if_neg (by rw [this]; simp)] at h
            exact ans_ib h
          · rw [hpv] at hb
            have hb0 := hb
            rw [Bool.or_eq_false_iff, Bool.or_eq_false_iff, decide_eq_false_iff_not, decide_eq_false_iff_not] at hb
            have hir : 0 ≤ x.getD i default ∧ x.getD i default < (l.length : Int) := by omega
            have hil : (x.getD i default).toNat < l.length := by omega
            have hfi : (forcesF l pr).getD (x.getD i default).toNat default = fh (l.getD (x.getD i default).toNat default) pr := getD_map hil
            have hp := hv _ (getD_mem hil)
            have hfr := (force_rng hp hr.2.1.1 hr.2.1.2).2.2.2
            refine ⟨⟨by omega, hlt⟩, ⟨hir.1, by rw [hfl]; exact hir.2⟩, fun hm => ?_, fun hm => ⟨⟨by omega, hlt⟩, ⟨hir.1, by rw [hfl]; exact hir.2⟩, ⟨by omega, hlt⟩, hir, by decide, ⟨by unfold capOk; omega, fun k hk => ?_⟩, i + 1, ⟨by omega, fun j hj => ?_⟩, by omega, ?_⟩⟩
            · rw [hfi] at hm
              have : okA ⟨per, pr, most⟩ l x = false := by
                unfold okA
                rw [List.all_eq_false]
                refine ⟨i, List.mem_range.2 hi', ?_⟩
                unfold okI
                rw [decide_eq_true hm]; simp
              rw [if_neg (by rw [this]; simp)] at h
              exact ans_ib h
            · obtain rfl : k = 0 := by omega
              exact ⟨rfl, trivial, trivial, trivial, trivial, trivial⟩
            · rcases Nat.lt_or_ge j i with h' | h'
              · exact ha j h'
              · obtain rfl : j = i := by omega
                rw [hfi] at hm
                unfold okI
                rw [hb0, decide_eq_false hm]; rfl
            · have hwt : wtT l x pr (i + 1) = wtT l x pr i + fh (l.getD (x.getD i default).toNat default) pr := by
                unfold wtT wtS chs
                rw [take_succ_eq hi', List.map_append, List.foldl_append]; rfl
              have hwr : 0 ≤ wtT l x pr i ∧ wtT l x pr i ≤ 510000000 * i := wt_rng hi fun j hj => by
                have hj' := ha j hj
                unfold okI at hj'
                rw [Bool.and_eq_true, Bool.not_eq_true', Bool.or_eq_false_iff, Bool.or_eq_false_iff, decide_eq_false_iff_not, decide_eq_false_iff_not] at hj'
                have hjl : (x.getD j default).toNat < l.length := by omega
                exact (force_rng (hv _ (getD_mem hjl)) hr.2.1.1 hr.2.1.2).2.2.2
              rw [hfi, w6_raw (x := wtT l x pr i + _) (by omega) (by omega), ← hwt]
              simp only [w_succ (i := i) (n := x.length) (by omega) (by omega), leS_mk, leL_cons, leL_nil, le_junk, le_int, le_bool, le_nil, leLL_nil, leLL_cons, leH_cons, leH_nil, leH1_box, leH1_own, leH1_gone, le_vs, le_agg, le_tup, le_ptr, le_own, le_xp, le_fn, le_opt, le_val, le_elem, le_nil_own, le_nil_vs, leH_ghost, leL_chunk, leXL_id, bnd_int, bnd_bool, bnd_val, bnd_nil, bnd_junk, bnd_vs, bnd_xp, bnd_agg, bnd_tup, bnd_ptr, bnd_own, bnd_elem, bnd_fn, bnd_iface, bnd_opt, bndL_nil, bndL_cons, lenH_cons, lenH_nil, imp_self, implies_true, true_and, and_true]
              refine ⟨by omega, by simp, app4 (b := 2) ?_⟩
              rw [chs, getD_map hi']
        · obtain rfl : i = x.length := by omega
          have hok : okA ⟨per, pr, most⟩ l x = true := by
            unfold okA
            rw [List.all_eq_true]
            exact fun j hj => ha j (List.mem_range.1 hj)
          rw [if_pos hok] at h
          have hcl : (chs l x).length = x.length := List.length_map ..
          refine ⟨chs l x, ⟨⟨rfl, hcl.symm, fun k hk => leXL_self _⟩, by omega, fun p hp => ?_, ha1, ha2, hr.1⟩, ?_⟩
          · obtain ⟨j, hj, rfl⟩ := mem_getD hp
            rw [hcl] at hj
            have hj' := ha j hj
            unfold okI at hj'
            rw [Bool.and_eq_true, Bool.not_eq_true', Bool.or_eq_false_iff, Bool.or_eq_false_iff, decide_eq_false_iff_not, decide_eq_false_iff_not] at hj'
            have hjl : (x.getD j default).toNat < l.length := by omega
            rw [chs, getD_map hj]
            exact hv _ (getD_mem hjl)
          · unfold wtT
            rw [take_full (Nat.le_refl _)]
            exact ans_ib h
  · exact h.1.elim

def ChoC : Ctr := { alias := false, of := fun l => match l with
  | [.agg [.vs _ _ n sz get], .vs _ _ n' sz' get', .agg [.int .i64 per, .int .i64 pr, .int .i64 most], .vs _ _ n2 sz2 get2] => .ex (List Iv) fun c => .ex (List Plt) fun l => .ex (List Int) fun x => .pre (lsP 2 enc2 n sz get c ∧ lsP 4 encP n' sz' get' l ∧ lsP 1 enc1 n2 sz2 get2 x ∧ chkT c = 0 ∧ l.length ≤ 1000 ∧ x.length ≤ 1000000000000 ∧ (∀ p ∈ l, palB p = false) ∧ wshB ⟨per, pr, most⟩ = false) (.fin (.tup [.int .i64 (chcF (areaF c) ⟨per, pr, most⟩ l x).1, .bool (chcF (areaF c) ⟨per, pr, most⟩ l x).2]) [])
  | _ => noC }
def F5 : Env := { ct := fun n => match n with | 38 => some forcesC | 34 => some areaC | 37 => some choiC | _ => none, fn := fun _ => none, meth := fun _ _ => none }
theorem F5_ct38 : F5.ct 38 = some forcesC := rfl
theorem F5_ct34 : F5.ct 34 = some areaC := rfl
theorem F5_ct37 : F5.ct 37 = some choiC := rfl
theorem F5_ok : EnvOk Try.prog F5 := by
  refine ⟨fun f c h => ?_, fun f vf h => ?_, (fun _ _ _ h => by cases h), by kernel_rfl⟩
  · simp only [F5] at h
    split at h
    · cases h; exact ⟨forces_ok, Try.f38, Try.func38, by kernel_rfl, by kernel_rfl⟩
    · cases h; exact ⟨rarea_ok, Try.f34, Try.func34, by kernel_rfl, by kernel_rfl⟩
    · cases h; exact ⟨choi_ok, Try.f37, Try.func37, by kernel_rfl, by kernel_rfl⟩
    · cases h
  · cases h

theorem Cho_ok : ChoC.ok Try.prog 11 := by
  refine contract Try.func11 v11_is F5_ok 300 ChoC fun args k h => ?_
  simp only [ChoC] at h
  split at h
  · rename_i t z n sz get t' z' n' sz' get' per pr most t2 z2 n2 sz2 get2
    obtain ⟨c, l, x, ⟨⟨rfl, rfl, hg⟩, ⟨rfl, rfl, hg'⟩, ⟨rfl, rfl, hg2⟩, hc, hl, hx, hv, hw⟩, h⟩ := h
    refine ⟨[.agg [.vs t z c.length 2 (fun k => enc2 (c.getD k default))], .vs t' z' l.length 4 (fun k => encP (l.getD k default)), .agg [.int .i64 per, .int .i64 pr, .int .i64 most], .vs t2 z2 x.length 1 (fun k => enc1 (x.getD k default))], ⟨by simpa [le, leL] using hg, by simpa [le, leL] using hg', by simp [le, leL], by simpa [le, leL] using hg2, trivial⟩, ?_⟩
    have h : k (.tup [.int .i64 (chcF (areaF c) ⟨per, pr, most⟩ l x).1, .bool (chcF (areaF c) ⟨per, pr, most⟩ l x).2]) [] := h
    dsimp only [v11, F5_ct38, F5_ct34, F5_ct37, forcesC, areaC, choiC, vsI, enc2, encP, enc1, go_sem, Option.bind, Option.map, List.append_nil, Nat.beq, List.cons_append, List.nil_append, List.append_eq, List.map_cons, List.map_nil, ite_self, reduceIte]
    simp only [true_and, and_true, imp_self, implies_true, decide_eq_true_eq, decide_eq_false_iff_not, Nat.reduceAdd, Nat.reduceLeDiff, Bool.not_not, reduceCtorEq, false_imp_iff, Bool.not_eq_true', Bool.not_eq_false', Bool.false_eq_true, and_self, forall_const, ne_eq, not_false_eq_true, Nat.reduceEqDiff]
    have ha := area_all (chkT_0 hc).2 (by have := (chkT_0 hc).1; omega)
    exact ⟨c, ⟨lsP_self, by have := (chkT_0 hc).1; omega, (chkT_0 hc).2⟩, l, ⟨lsP_self, hl, hv, hw⟩, l, x, ⟨lsP_self, lsP_self, lsP_self, hl, hx, hv, hw, ha.1, ha.2⟩, by decide, by decide, ans_ib h⟩
  · exact h.1.elim
end Go.Proofs.Ytngccjllkgpjmaa

/- Chests, walked: the laws' helpers; the document's examples; the law of Enough. -/
/- Chests, walked: the laws' helpers; the document's examples; the law of Enough. -/
set_option linter.all false
namespace Go.Proofs.Ytngccjllkgpjmaa
open Go Go.Vx
set_option maxRecDepth 100000
set_option maxHeartbeats 4000000

def v19 : VF := { ntmps := 2, res := [.cell 0 true 4], body :=
 (.seq (.region [⟨(some 0), none, (.alloc [(.int .i64 0), (.int .i64 0), (.int .i64 0), (.int .i64 0)]), []⟩])
 (.seq (.region [⟨(some 1), none, (.build [(.int .i64 0), (.int .i64 0), (.int .i64 0), (.int .i64 0)] [(0, 1), (1, 1), (2, 1), (3, 1)]), [.cn (.int .i64 20000), .cn (.int .i64 200000), .cn (.int .i64 6000), .cn (.int .i64 800000)]⟩,
  ⟨none, none, (.store 4), [.tm 0, .tm 1]⟩])
 .ret)) }
theorem v19_is : vfunc Try.prog Try.f19 = some v19 := by kernel_rfl
def v21 : VF := { ntmps := 17, res := [.cell 2 true 1], body :=
 (.seq (.region [⟨(some 2), none, (.alloc [.nil]), []⟩])
 (.seq (.region [⟨(some 3), none, (.alloc [.nil]), []⟩])
 (.seq (.seq (.region [⟨(some 4), none, .mov, [.cn (.int .i64 0)]⟩])
 (.block 0 (.loop (.seq (.seq (.region [⟨(some 5), none, .mov, [.tm 4]⟩,
  ⟨(some 6), none, .mov, [.tm 0]⟩,
  ⟨(some 7), none, (.cmp .lss), [.tm 5, .tm 6]⟩])
 (.cond (.tm 7) .skip
  (.exit 0)))
 (.seq (.block 1 (.region [⟨(some 10), none, (.fieldAddr 0), [.tm 3]⟩,
  ⟨(some 11), none, (.load false 1), [.tm 10]⟩,
  ⟨(some 12), none, (.build [(.int .i64 0), (.int .i64 0)] [(0, 1), (1, 1)]), [.cn (.int .i64 20000), .cn (.int .i64 700)]⟩,
  ⟨(some 13), none, (.buildSlice 2 1 [(.int .i64 0), (.int .i64 0)] [(0, 2)]), [.tm 12]⟩,
  ⟨(some 14), none, (.append 2 16 [(.int .i64 0), (.int .i64 0)]), [.tm 11, .tm 13]⟩,
  ⟨(some 15), none, (.fieldAddr 0), [.tm 3]⟩,
  ⟨none, none, (.store 1), [.tm 15, .tm 14]⟩]))
 (.region [⟨(some 8), none, .mov, [.tm 4]⟩,
  ⟨(some 9), none, (.ari .add), [.tm 8, .cn (.int .i64 1)]⟩,
  ⟨(some 4), none, .mov, [.tm 9]⟩]))))))
 (.seq (.region [⟨(some 16), none, (.load true 1), [.tm 3]⟩,
  ⟨none, none, (.store 1), [.tm 2, .tm 16]⟩])
 .ret)))) }
theorem v21_is : vfunc Try.prog Try.f21 = some v21 := by kernel_rfl
def v22 : VF := { ntmps := 26, res := [.tmp 4], body :=
 (.seq (.region [⟨(some 4), none, .mov, [.cn (.bool false)]⟩])
 (.seq (.seq (.region [⟨(some 6), none, .mov, [.tm 0]⟩,
  ⟨(some 7), none, .len, [.tm 6]⟩,
  ⟨(some 8), none, .mov, [.tm 1]⟩,
  ⟨(some 9), none, .len, [.tm 8]⟩,
  ⟨(some 10), none, (.cmp .neq), [.tm 7, .tm 9]⟩])
 (.cond (.tm 10) (.seq (.region [⟨(some 4), none, .mov, [.cn (.bool false)]⟩])
 .ret)
  .skip))
 (.seq (.seq (.region [⟨(some 5), none, .mov, [.cn (.int .i64 0)]⟩])
 (.block 0 (.loop (.seq (.seq (.region [⟨(some 11), none, .mov, [.tm 5]⟩,
  ⟨(some 12), none, .mov, [.tm 0]⟩,
  ⟨(some 13), none, .len, [.tm 12]⟩,
  ⟨(some 14), none, (.cmp .lss), [.tm 11, .tm 13]⟩])
 (.cond (.tm 14) .skip
  (.exit 0)))
 (.seq (.block 1 (.seq (.draw [] [⟨⟨(some 17), none, .mov, [.tm 0]⟩, []⟩,
  ⟨⟨(some 18), none, .mov, [.tm 5]⟩, []⟩,
  ⟨⟨(some 19), none, (.idxAddr 1), [.tm 17, .tm 18]⟩, []⟩,
  ⟨⟨(some 20), none, (.load false 1), [.tm 19]⟩, []⟩,
  ⟨⟨(some 21), none, .mov, [.tm 1]⟩, []⟩,
  ⟨⟨(some 22), none, .mov, [.tm 5]⟩, []⟩,
  ⟨⟨(some 23), none, (.idxAddr 1), [.tm 21, .tm 22]⟩, []⟩,
  ⟨⟨(some 24), none, (.load false 1), [.tm 23]⟩, []⟩,
  ⟨⟨(some 25), none, (.cmp .neq), [.tm 20, .tm 24]⟩, []⟩])
 (.cond (.tm 25) (.seq (.region [⟨(some 4), none, .mov, [.cn (.bool false)]⟩])
 .ret)
  .skip)))
 (.region [⟨(some 15), none, .mov, [.tm 5]⟩,
  ⟨(some 16), none, (.ari .add), [.tm 15, .cn (.int .i64 1)]⟩,
  ⟨(some 5), none, .mov, [.tm 16]⟩]))))))
 (.seq (.region [⟨(some 4), none, .mov, [.cn (.bool true)]⟩])
 .ret)))) }
theorem v22_is : vfunc Try.prog Try.f22 = some v22 := by kernel_rfl
def v7 : VF := { ntmps := 112, res := [.tmp 0], body :=
 (.seq (.region [⟨(some 0), none, .mov, [.cn (.bool false)]⟩])
 (.seq (.region [⟨(some 17), none, (.call 19), []⟩,
  ⟨(some 18), none, (.buildSlice 4 1 [(.int .i64 0), (.int .i64 0), (.int .i64 0), (.int .i64 0)] [(0, 4)]), [.tm 17]⟩,
  ⟨(some 1), none, .mov, [.tm 18]⟩])
 (.seq (.region [⟨(some 19), none, (.build [(.int .i64 0), (.int .i64 0), (.int .i64 0)] [(0, 1), (1, 1), (2, 1)]), [.cn (.int .i64 100), .cn (.int .i64 600), .cn (.int .i64 4000000)]⟩,
  ⟨(some 2), none, (.alloc [(.int .i64 0), (.int .i64 0), (.int .i64 0)]), []⟩,
  ⟨none, none, (.store 3), [.tm 2, .tm 19]⟩])
 (.seq (.region [⟨(some 21), none, (.call 19), []⟩,
  ⟨(some 22), none, (.call 20), [.tm 21]⟩,
  ⟨(some 20), none, .mov, [.tm 22]⟩,
  ⟨(some 23), none, (.ext 0), [.tm 20]⟩,
  ⟨(some 24), none, (.ext 1), [.tm 20]⟩,
  ⟨(some 3), none, .mov, [.tm 23]⟩,
  ⟨(some 4), none, .mov, [.tm 24]⟩])
 (.seq (.region [⟨(some 26), none, (.call 19), []⟩,
  ⟨(some 27), none, (.call 17), [.tm 26, .cn (.int .i64 600)]⟩,
  ⟨(some 25), none, .mov, [.tm 27]⟩,
  ⟨(some 28), none, (.ext 0), [.tm 25]⟩,
  ⟨(some 29), none, (.ext 1), [.tm 25]⟩,
  ⟨(some 5), none, (.alloc [(.int .i64 0), (.int .i64 0)]), []⟩,
  ⟨none, none, (.store 2), [.tm 5, .tm 28]⟩,
  ⟨(some 6), none, .mov, [.tm 29]⟩])
 (.seq (.region [⟨(some 31), none, (.call 21), [.cn (.int .i64 1)]⟩,
  ⟨(some 32), none, (.call 12), [.tm 31]⟩,
  ⟨(some 30), none, .mov, [.tm 32]⟩,
  ⟨(some 33), none, (.ext 0), [.tm 30]⟩,
  ⟨(some 34), none, (.ext 1), [.tm 30]⟩,
  ⟨(some 7), none, (.alloc [(.int .i64 0), (.int .i64 0)]), []⟩,
  ⟨none, none, (.store 2), [.tm 7, .tm 33]⟩,
  ⟨(some 8), none, .mov, [.tm 34]⟩])
 (.seq (.region [⟨(some 36), none, (.call 21), [.cn (.int .i64 1)]⟩,
  ⟨(some 37), none, .mov, [.tm 1]⟩,
  ⟨(some 38), none, (.call 8), [.tm 36, .tm 37, .cn (.int .i64 500)]⟩,
  ⟨(some 35), none, .mov, [.tm 38]⟩,
  ⟨(some 39), none, (.ext 0), [.tm 35]⟩,
  ⟨(some 40), none, (.ext 1), [.tm 35]⟩,
  ⟨(some 9), none, .mov, [.tm 39]⟩,
  ⟨(some 10), none, .mov, [.tm 40]⟩])
 (.seq (.draw [] [⟨⟨(some 43), none, .mov, [.tm 1]⟩, []⟩,
  ⟨⟨(some 44), none, (.load true 3), [.tm 2]⟩, []⟩,
  ⟨⟨(some 42), none, (.call 21), [.cn (.int .i64 8)]⟩, []⟩,
  ⟨⟨(some 45), none, (.call 10), [.tm 42, .tm 43, .tm 44]⟩, []⟩,
  ⟨⟨(some 41), none, .mov, [.tm 45]⟩, []⟩,
  ⟨⟨(some 46), none, (.ext 0), [.tm 41]⟩, []⟩,
  ⟨⟨(some 47), none, (.ext 1), [.tm 41]⟩, []⟩,
  ⟨⟨(some 11), none, .mov, [.tm 46]⟩, []⟩,
  ⟨⟨(some 12), none, .mov, [.tm 47]⟩, []⟩])
 (.seq (.draw [] [⟨⟨(some 50), none, .mov, [.tm 1]⟩, []⟩,
  ⟨⟨(some 51), none, (.load true 3), [.tm 2]⟩, []⟩,
  ⟨⟨(some 49), none, (.call 21), [.cn (.int .i64 9)]⟩, []⟩,
  ⟨⟨(some 52), none, (.call 10), [.tm 49, .tm 50, .tm 51]⟩, []⟩,
  ⟨⟨(some 48), none, .mov, [.tm 52]⟩, []⟩,
  ⟨⟨(some 53), none, (.ext 0), [.tm 48]⟩, []⟩,
  ⟨⟨(some 54), none, (.ext 1), [.tm 48]⟩, []⟩,
  ⟨⟨(some 13), none, .mov, [.tm 53]⟩, []⟩,
  ⟨⟨(some 14), none, .mov, [.tm 54]⟩, []⟩])
 (.seq (.region [⟨(some 56), none, (.build [(.int .i64 0), (.int .i64 0)] [(0, 1), (1, 1)]), [.cn (.int .i64 10000), .cn (.int .i64 700)]⟩,
  ⟨(some 57), none, (.call 18), [.tm 56, .cn (.int .i64 1000000), .cn (.int .i64 2)]⟩,
  ⟨(some 55), none, .mov, [.tm 57]⟩,
  ⟨(some 58), none, (.ext 0), [.tm 55]⟩,
  ⟨(some 59), none, (.ext 1), [.tm 55]⟩,
  ⟨(some 15), none, (.alloc [(.int .i64 0), (.int .i64 0)]), []⟩,
  ⟨none, none, (.store 2), [.tm 15, .tm 58]⟩,
  ⟨(some 16), none, .mov, [.tm 59]⟩])
 (.seq (.seq (.region [⟨(some 60), none, .mov, [.tm 4]⟩,
  ⟨(some 61), none, (.cmp .neq), [.tm 60, .cn (.int .i64 0)]⟩,
  ⟨(some 62), none, .mov, [.tm 61]⟩,
  ⟨(some 63), (some (62, false)), .mov, [.tm 6]⟩,
  ⟨(some 64), (some (62, false)), (.cmp .neq), [.tm 63, .cn (.int .i64 0)]⟩,
  ⟨(some 65), none, .or, [.tm 62, .tm 64]⟩,
  ⟨(some 66), none, .mov, [.tm 65]⟩,
  ⟨(some 67), (some (66, false)), .mov, [.tm 8]⟩,
  ⟨(some 68), (some (66, false)), (.cmp .neq), [.tm 67, .cn (.int .i64 0)]⟩,
  ⟨(some 69), none, .or, [.tm 66, .tm 68]⟩,
  ⟨(some 70), none, .mov, [.tm 69]⟩,
  ⟨(some 71), (some (70, false)), .mov, [.tm 10]⟩,
  ⟨(some 72), (some (70, false)), (.cmp .neq), [.tm 71, .cn (.int .i64 0)]⟩,
  ⟨(some 73), none, .or, [.tm 70, .tm 72]⟩,
  ⟨(some 74), none, .mov, [.tm 73]⟩,
  ⟨(some 75), (some (74, false)), .mov, [.tm 12]⟩,
  ⟨(some 76), (some (74, false)), (.cmp .neq), [.tm 75, .cn (.int .i64 0)]⟩,
  ⟨(some 77), none, .or, [.tm 74, .tm 76]⟩,
  ⟨(some 78), none, .mov, [.tm 77]⟩,
  ⟨(some 79), (some (78, false)), .mov, [.tm 14]⟩,
  ⟨(some 80), (some (78, false)), (.cmp .neq), [.tm 79, .cn (.int .i64 4)]⟩,
  ⟨(some 81), none, .or, [.tm 78, .tm 80]⟩,
  ⟨(some 82), none, .mov, [.tm 81]⟩,
  ⟨(some 83), (some (82, false)), .mov, [.tm 16]⟩,
  ⟨(some 84), (some (82, false)), (.cmp .neq), [.tm 83, .cn (.int .i64 0)]⟩,
  ⟨(some 85), none, .or, [.tm 82, .tm 84]⟩])
 (.cond (.tm 85) (.seq (.region [⟨(some 0), none, .mov, [.cn (.bool false)]⟩])
 .ret)
  .skip))
 (.seq (.region [⟨(some 86), none, .mov, [.tm 3]⟩,
  ⟨(some 87), none, (.cmp .eql), [.tm 86, .cn (.int .i64 1320000000)]⟩,
  ⟨(some 88), none, .mov, [.tm 87]⟩,
  ⟨(some 89), (some (88, true)), (.load true 2), [.tm 5]⟩,
  ⟨(some 90), (some (88, true)), (.build [(.int .i64 0), (.int .i64 0)] [(0, 1), (1, 1)]), [.cn (.int .i64 3200000), .cn (.int .i64 3200000)]⟩,
  ⟨(some 91), (some (88, true)), (.eqv false [true, true]), [.tm 89, .tm 90]⟩,
  ⟨(some 92), none, .and, [.tm 88, .tm 91]⟩,
  ⟨(some 93), none, .mov, [.tm 92]⟩,
  ⟨(some 94), (some (93, true)), (.load true 2), [.tm 7]⟩,
  ⟨(some 95), (some (93, true)), (.build [(.int .i64 0), (.int .i64 0)] [(0, 1), (1, 1)]), [.cn (.int .i64 314159265), .cn (.int .i64 314159266)]⟩,
  ⟨(some 96), (some (93, true)), (.eqv false [true, true]), [.tm 94, .tm 95]⟩,
  ⟨(some 97), none, .and, [.tm 93, .tm 96]⟩,
  ⟨(some 98), none, .mov, [.tm 97]⟩,
  ⟨(some 99), (some (98, true)), .mov, [.tm 9]⟩,
  ⟨(some 100), (some (98, true)), (.cmp .eql), [.tm 99, .cn (.int .i64 (-1))]⟩,
  ⟨(some 101), none, .and, [.tm 98, .tm 100]⟩,
  ⟨(some 102), none, .mov, [.tm 101]⟩,
  ⟨(some 103), (some (102, true)), .mov, [.tm 11]⟩,
  ⟨(some 104), (some (102, true)), (.buildSlice 1 2 [(.int .i64 0)] [(0, 1), (1, 1)]), [.cn (.int .i64 0), .cn (.int .i64 0)]⟩,
  ⟨(some 105), (some (102, true)), (.call 22), [.tm 103, .tm 104]⟩,
  ⟨(some 106), none, .and, [.tm 102, .tm 105]⟩,
  ⟨(some 107), none, .mov, [.tm 106]⟩,
  ⟨(some 108), (some (107, true)), (.load true 2), [.tm 15]⟩,
  ⟨(some 109), (some (107, true)), (.build [(.int .i64 0), (.int .i64 0)] [(0, 1), (1, 1)]), [.cn (.int .i64 10954), .cn (.int .i64 10955)]⟩,
  ⟨(some 110), (some (107, true)), (.eqv false [true, true]), [.tm 108, .tm 109]⟩,
  ⟨(some 111), none, .and, [.tm 107, .tm 110]⟩,
  ⟨(some 0), none, .mov, [.tm 111]⟩])
 .ret)))))))))))) }
theorem v7_is : vfunc Try.prog Try.f7 = some v7 := by kernel_rfl
def v3 : VF := { ntmps := 46, res := [.tmp 6], body :=
 (.seq (.region [⟨(some 3), none, .box, [.tm 0]⟩,
  ⟨(some 6), none, .mov, [.cn (.bool false)]⟩])
 (.seq (.seq (.region [⟨(some 11), none, (.fieldAddr 0), [.tm 3]⟩,
  ⟨(some 12), none, (.load false 1), [.tm 11]⟩,
  ⟨(some 13), none, .len, [.tm 12]⟩,
  ⟨(some 14), none, (.cmp .gtr), [.tm 13, .cn (.int .i64 30)]⟩,
  ⟨(some 15), none, .mov, [.tm 14]⟩,
  ⟨(some 16), (some (15, false)), .mov, [.tm 1]⟩,
  ⟨(some 17), (some (15, false)), .len, [.tm 16]⟩,
  ⟨(some 18), (some (15, false)), (.cmp .gtr), [.tm 17, .cn (.int .i64 50)]⟩,
  ⟨(some 19), none, .or, [.tm 15, .tm 18]⟩])
 (.cond (.tm 19) (.seq (.region [⟨(some 20), none, (.call 7), []⟩,
  ⟨(some 6), none, .mov, [.tm 20]⟩])
 .ret)
  .skip))
 (.seq (.region [⟨(some 22), none, (.load true 1), [.tm 3]⟩,
  ⟨(some 23), none, .mov, [.tm 1]⟩,
  ⟨(some 24), none, .mov, [.tm 2]⟩,
  ⟨(some 25), none, (.call 8), [.tm 22, .tm 23, .tm 24]⟩,
  ⟨(some 21), none, .mov, [.tm 25]⟩,
  ⟨(some 26), none, (.ext 0), [.tm 21]⟩,
  ⟨(some 27), none, (.ext 1), [.tm 21]⟩,
  ⟨(some 7), none, .mov, [.tm 26]⟩,
  ⟨(some 8), none, .mov, [.tm 27]⟩])
 (.seq (.region [⟨(some 29), none, (.load true 1), [.tm 3]⟩,
  ⟨(some 30), none, .mov, [.tm 1]⟩,
  ⟨(some 31), none, .mov, [.tm 2]⟩,
  ⟨(some 32), none, (.call 9), [.tm 29, .tm 30, .tm 31]⟩,
  ⟨(some 28), none, .mov, [.tm 32]⟩,
  ⟨(some 33), none, (.ext 0), [.tm 28]⟩,
  ⟨(some 34), none, (.ext 1), [.tm 28]⟩,
  ⟨(some 9), none, .mov, [.tm 33]⟩,
  ⟨(some 10), none, .mov, [.tm 34]⟩])
 (.seq (.region [⟨(some 35), none, .mov, [.tm 7]⟩,
  ⟨(some 36), none, .mov, [.tm 9]⟩,
  ⟨(some 37), none, (.cmp .eql), [.tm 35, .tm 36]⟩,
  ⟨(some 38), none, .mov, [.tm 37]⟩,
  ⟨(some 39), (some (38, true)), .mov, [.tm 8]⟩,
  ⟨(some 40), (some (38, true)), .mov, [.tm 10]⟩,
  ⟨(some 41), (some (38, true)), (.cmp .eql), [.tm 39, .tm 40]⟩,
  ⟨(some 42), none, .and, [.tm 38, .tm 41]⟩,
  ⟨(some 43), none, .mov, [.tm 42]⟩,
  ⟨(some 44), (some (43, true)), (.call 7), []⟩,
  ⟨(some 45), none, .and, [.tm 43, .tm 44]⟩,
  ⟨(some 6), none, .mov, [.tm 45]⟩])
 .ret))))) }
def plC : Ctr := { alias := false, of := fun l => match l with
  | [] => .fin (.agg [.int .i64 20000, .int .i64 200000, .int .i64 6000, .int .i64 800000]) []
  | _ => noC }
def chaC : Ctr := { alias := false, of := fun l => match l with
  | [.int .i64 n] => .pre (0 ≤ n ∧ n ≤ 1000) (.fin (.agg [.vs true (decide (n.toNat = 0)) n.toNat 2 (fun _ => enc2 (20000, 700))]) [])
  | _ => noC }
def samC {α : Type} [Inhabited α] [DecidableEq α] (size : Nat) (e : α → List SV) : Ctr := { alias := false, of := fun l => match l with
  | [.vs _ _ n sz get, .vs _ _ m sz' get'] => .ex (List α) fun a => .ex (List α) fun b => .pre (lsP size e n sz get a ∧ lsP size e m sz' get' b ∧ a.length ≤ 1000000000000) (.fin (.bool (decide (a = b))) [])
  | _ => noC }
def samIC : Ctr := samC 1 enc1
def L0 : Env := { ct := fun _ => none, fn := fun _ => none, meth := fun _ _ => none }
theorem L0_ok : EnvOk Try.prog L0 := by
  refine ⟨fun f c h => ?_, fun f vf h => ?_, (fun _ _ _ h => by cases h), by kernel_rfl⟩
  · cases h
  · cases h

theorem pl_ok : plC.ok Try.prog 19 := by
  refine contract Try.func19 v19_is L0_ok 100 plC fun args k h => ⟨args, ?_⟩
  simp only [plC] at h
  split at h
  · refine ⟨by simp [leL, le], ?_⟩
    dsimp only [v19, go_sem, Option.bind, Option.map, List.append_nil, Nat.beq, List.cons_append, List.nil_append, List.append_eq, List.map_cons, List.map_nil, ite_self, reduceIte]
    simp only [true_and, and_true, imp_self, implies_true, decide_eq_true_eq, decide_eq_false_iff_not, Nat.reduceAdd, Nat.reduceLeDiff, Bool.not_not, reduceCtorEq, false_imp_iff, Bool.not_eq_true', Bool.not_eq_false', Bool.false_eq_true, and_self, forall_const, ne_eq, not_false_eq_true, Nat.reduceEqDiff]
    exact ans_le (show k _ [] from h) (leX_le (.agg [.int _ _, .int _ _, .int _ _, .int _ _]) _ (leXL_self _) ⟨trivial, trivial, trivial, trivial, trivial⟩) (fun _ => by simp [freshS, freshL])
  · exact h.1.elim
theorem cha_ok : chaC.ok Try.prog 21 := by
  refine contract Try.func21 v21_is L0_ok 100 chaC fun args k h => ⟨args, ?_⟩
  simp only [chaC] at h
  split at h
  · rename_i n
    obtain ⟨⟨h0, h1⟩, h⟩ := h
    refine ⟨by simp [leL, le], ?_⟩
    obtain ⟨n, rfl⟩ := Int.eq_ofNat_of_zero_le h0
    have h : k (.agg [.vs true (decide (n = 0)) n 2 (fun _ => enc2 (20000, 700))]) [] := h
    dsimp only [v21, go_sem, Option.bind, Option.map, List.append_nil, Nat.beq, List.cons_append, List.nil_append, List.append_eq, List.map_cons, List.map_nil, ite_self, reduceIte]
    simp only [true_and, and_true, imp_self, implies_true, decide_eq_true_eq, decide_eq_false_iff_not, Nat.reduceAdd, Nat.reduceLeDiff, Bool.not_not, reduceCtorEq, false_imp_iff, Bool.not_eq_true', Bool.not_eq_false', Bool.false_eq_true, and_self, forall_const, ne_eq, not_false_eq_true, Nat.reduceEqDiff]
    refine Loop.keep [0, 1, 0] Nat (fun i => [(4, .int .i64 i)]) (fun i => [(1, .box [.own 2 0 i 2]), (2, .own (decide (i = 0)) 2 i (fun _ => enc2 (20000, 700)))]) [.gone] (fun i => i ≤ n) (fun i => n - i) ?_ ?_
    · refine ⟨0, Nat.zero_le _, ?_⟩
      dsimp only [go_sem, Option.bind, Option.map, List.append_nil, Nat.beq, List.cons_append, List.nil_append, List.append_eq, List.map_cons, List.map_nil, ite_self, reduceIte]
      simp only [leH_ghost, leS_mk, leL_cons, leL_nil, le_junk, le_int, le_bool, le_nil, leLL_nil, leLL_cons, leH_cons, leH_nil, leH1_box, leH1_own, leH1_gone, le_vs, le_agg, le_tup, le_ptr, le_own, le_xp, le_fn, le_opt, le_val, le_elem, le_nil_own, le_nil_vs, leH_ghost, leL_chunk, leXL_id, bnd_int, bnd_bool, bnd_val, bnd_nil, bnd_junk, bnd_vs, bnd_xp, bnd_agg, bnd_tup, bnd_ptr, bnd_own, bnd_elem, bnd_fn, bnd_iface, bnd_opt, bndL_nil, bndL_cons, lenH_cons, lenH_nil, imp_self, implies_true, true_and, and_true] <;> simp
    · rintro i hi
      dsimp only [enc2, go_sem, Option.bind, Option.map, List.append_nil, Nat.beq, List.cons_append, List.nil_append, List.append_eq, List.map_cons, List.map_nil, ite_self, reduceIte]
      simp only [true_and, and_true, imp_self, implies_true, decide_eq_true_eq, decide_eq_false_iff_not, Nat.reduceAdd, Nat.reduceLeDiff, Bool.not_not, reduceCtorEq, false_imp_iff, Bool.not_eq_true', Bool.not_eq_false', Bool.false_eq_true, and_self, forall_const, ne_eq, not_false_eq_true, Nat.reduceEqDiff]
      refine ⟨fun hlt => ?_, fun hge => ?_⟩
      · refine ⟨by decide, ⟨by unfold capOk; omega, fun k hk => ?_⟩, i + 1, by omega, by omega, ?_⟩
        · obtain rfl : k = 0 := by omega
          exact ⟨rfl, trivial, trivial, trivial⟩
        · simp only [w_succ (i := i) (n := n) (by omega) (by omega), leS_mk, leL_cons, leL_nil, le_junk, le_int, le_bool, le_nil, leLL_nil, leLL_cons, leH_cons, leH_nil, leH1_box, leH1_own, leH1_gone, le_vs, le_agg, le_tup, le_ptr, le_own, le_xp, le_fn, le_opt, le_val, le_elem, le_nil_own, le_nil_vs, leH_ghost, leL_chunk, leXL_id, bnd_int, bnd_bool, bnd_val, bnd_nil, bnd_junk, bnd_vs, bnd_xp, bnd_agg, bnd_tup, bnd_ptr, bnd_own, bnd_elem, bnd_fn, bnd_iface, bnd_opt, bndL_nil, bndL_cons, lenH_cons, lenH_nil, imp_self, implies_true, true_and, and_true]
          refine ⟨by omega, by omega, by simp, fun k hk => ?_⟩
          split
          · exact ⟨⟨rfl, rfl⟩, ⟨rfl, rfl⟩, trivial⟩
          · obtain rfl : k = i := by omega
            rw [Nat.sub_self]
            exact ⟨⟨rfl, rfl⟩, ⟨rfl, rfl⟩, trivial⟩
      · obtain rfl : i = n := by omega
        refine ans_le (show k _ [] from h) ?_ (fun _ => by simp [enc2, freshS, freshL])
        simp only [expo, view, viewL, getH]
        exact ⟨⟨fun h => h, rfl, rfl, rfl, fun q _ => ⟨⟨rfl, rfl⟩, ⟨rfl, rfl⟩, trivial⟩⟩, trivial⟩
  · exact h.1.elim
theorem list_ne {α : Type} [Inhabited α] {a b : List α} {i : Nat} (h : a.getD i default ≠ b.getD i default) : a ≠ b := fun e => h (by rw [e])
theorem samI_ok : samIC.ok Try.prog 22 := by
  refine contract Try.func22 v22_is L0_ok 200 samIC fun args k h => ?_
  simp only [samIC, samC] at h
  split at h
  · rename_i t z n sz get t' z' m sz' get'
    obtain ⟨a, b, ⟨⟨rfl, rfl, hg⟩, ⟨rfl, rfl, hg'⟩, hbig⟩, h⟩ := h
    refine ⟨[.vs t z a.length 1 (fun k => enc1 (a.getD k default)), .vs t' z' b.length 1 (fun k => enc1 (b.getD k default))], ⟨by simpa [le] using hg, by simpa [le] using hg', trivial⟩, ?_⟩
    have h : k (.bool (decide (a = b))) [] := h
    dsimp only [v22, enc1, go_sem, Option.bind, Option.map, List.append_nil, Nat.beq, List.cons_append, List.nil_append, List.append_eq, List.map_cons, List.map_nil, ite_self, reduceIte]
    simp only [true_and, and_true, imp_self, implies_true, decide_eq_true_eq, decide_eq_false_iff_not, Nat.reduceAdd, Nat.reduceLeDiff, Bool.not_not, reduceCtorEq, false_imp_iff, Bool.not_eq_true', Bool.not_eq_false', Bool.false_eq_true, and_self, forall_const, ne_eq, not_false_eq_true, Nat.reduceEqDiff]
    refine ⟨fun hc => ?_, fun hc => ?_⟩
    · rw [decide_eq_false (show ¬ a = b from fun e => by rw [e] at hc; omega)] at h; exact ans_bool h
    · have hlen : a.length = b.length := by omega
      refine Loop.keep [0, 0, 3] Nat (fun i => [(5, .int .i64 i)]) (fun _ => []) [] (fun i => i ≤ a.length ∧ ∀ j, j < i → a.getD j default = b.getD j default) (fun i => a.length - i) ?_ ?_
      · refine ⟨0, ⟨Nat.zero_le _, fun j h => by omega⟩, ?_⟩
        dsimp only [go_sem, Option.bind, Option.map, List.append_nil, Nat.beq, List.cons_append, List.nil_append, List.append_eq, List.map_cons, List.map_nil, ite_self, reduceIte]
        simp only [leS_mk, leL_cons, leL_nil, le_junk, le_int, le_bool, le_nil, leLL_nil, leLL_cons, leH_cons, leH_nil, leH1_box, leH1_own, leH1_gone, le_vs, le_agg, le_tup, le_ptr, le_own, le_xp, le_fn, le_opt, le_val, le_elem, le_nil_own, le_nil_vs, leH_ghost, leL_chunk, leXL_id, bnd_int, bnd_bool, bnd_val, bnd_nil, bnd_junk, bnd_vs, bnd_xp, bnd_agg, bnd_tup, bnd_ptr, bnd_own, bnd_elem, bnd_fn, bnd_iface, bnd_opt, bndL_nil, bndL_cons, lenH_cons, lenH_nil, imp_self, implies_true, true_and, and_true]
        simp
      · rintro i ⟨hi, ha⟩
        dsimp only [enc1, Int.toNat_natCast, go_sem, Option.bind, Option.map, List.append_nil, Nat.beq, List.cons_append, List.nil_append, List.append_eq, List.map_cons, List.map_nil, ite_self, reduceIte]
        simp only [true_and, and_true, imp_self, implies_true, decide_eq_true_eq, decide_eq_false_iff_not, Nat.reduceAdd, Nat.reduceLeDiff, Bool.not_not, reduceCtorEq, false_imp_iff, Bool.not_eq_true', Bool.not_eq_false', Bool.false_eq_true, and_self, forall_const, ne_eq, not_false_eq_true, Nat.reduceEqDiff]
        refine ⟨fun hlt => ?_, fun hge => ?_⟩
        · refine ⟨⟨by omega, hlt⟩, ⟨by omega, by omega⟩, ?_⟩
          refine ⟨fun hne => ?_, fun heq => ?_⟩
          · rw [decide_eq_false (list_ne (a := a) (b := b) (i := i) fun e => hne (by rw [e]))] at h; exact ans_bool h
          · refine ⟨i + 1, ⟨by omega, fun j hj => ?_⟩, by omega, ?_⟩
            · rcases Nat.lt_or_ge j i with h' | h'
              · exact ha j h'
              · obtain rfl : j = i := by omega
                omega
            · simp only [w_succ (i := i) (n := a.length) (by omega) (by omega), leS_mk, leL_cons, leL_nil, le_junk, le_int, le_bool, le_nil, leLL_nil, leLL_cons, leH_cons, leH_nil, leH1_box, leH1_own, leH1_gone, le_vs, le_agg, le_tup, le_ptr, le_own, le_xp, le_fn, le_opt, le_val, le_elem, le_nil_own, le_nil_vs, leH_ghost, leL_chunk, leXL_id, bnd_int, bnd_bool, bnd_val, bnd_nil, bnd_junk, bnd_vs, bnd_xp, bnd_agg, bnd_tup, bnd_ptr, bnd_own, bnd_elem, bnd_fn, bnd_iface, bnd_opt, bndL_nil, bndL_cons, lenH_cons, lenH_nil, imp_self, implies_true, true_and, and_true] <;> simp
        · have e : a = b := list_ext hlen fun i h => ha i (by omega)
          rw [decide_eq_true e] at h; exact ans_bool h
  · exact h.1.elim

def A0 : Env := { ct := fun n => match n with | 19 => some plC | 21 => some chaC | 22 => some samIC | 20 => some OpC | 17 => some FoC | 12 => some ArC | 8 => some EnC | 10 => some ChC | 18 => some TuC | _ => none, fn := fun _ => none, meth := fun _ _ => none }
theorem A0_ct19 : A0.ct 19 = some plC := rfl
theorem A0_ct21 : A0.ct 21 = some chaC := rfl
theorem A0_ct22 : A0.ct 22 = some samIC := rfl
theorem A0_ct20 : A0.ct 20 = some OpC := rfl
theorem A0_ct17 : A0.ct 17 = some FoC := rfl
theorem A0_ct12 : A0.ct 12 = some ArC := rfl
theorem A0_ct8 : A0.ct 8 = some EnC := rfl
theorem A0_ct10 : A0.ct 10 = some ChC := rfl
theorem A0_ct18 : A0.ct 18 = some TuC := rfl
theorem A0_ok : EnvOk Try.prog A0 := by
  refine ⟨fun f c h => ?_, fun f vf h => ?_, (fun _ _ _ h => by cases h), by kernel_rfl⟩
  · simp only [A0] at h
    split at h
    · cases h; exact ⟨pl_ok, Try.f19, Try.func19, by kernel_rfl, by kernel_rfl⟩
    · cases h; exact ⟨cha_ok, Try.f21, Try.func21, by kernel_rfl, by kernel_rfl⟩
    · cases h; exact ⟨samI_ok, Try.f22, Try.func22, by kernel_rfl, by kernel_rfl⟩
    · cases h; exact ⟨Op_ok, Try.f20, Try.func20, by kernel_rfl, by kernel_rfl⟩
    · cases h; exact ⟨Fo_ok, Try.f17, Try.func17, by kernel_rfl, by kernel_rfl⟩
    · cases h; exact ⟨Ar_ok, Try.f12, Try.func12, by kernel_rfl, by kernel_rfl⟩
    · cases h; exact ⟨En_ok, Try.f8, Try.func8, by kernel_rfl, by kernel_rfl⟩
    · cases h; exact ⟨Ch_ok, Try.f10, Try.func10, by kernel_rfl, by kernel_rfl⟩
    · cases h; exact ⟨Tu_ok, Try.f18, Try.func18, by kernel_rfl, by kernel_rfl⟩
    · cases h
  · cases h

def toes (n : Nat) : List Iv := List.replicate n (20000, 700)
def pal0 : Plt := ⟨20000, 200000, 6000, 800000⟩
theorem toes_ls {n : Nat} : lsP 2 enc2 n 2 (fun _ => [SV.int .i64 20000, .int .i64 700]) (toes n) := by
  refine ⟨rfl, by simp [toes], fun k hk => ?_⟩
  rw [show (toes n).getD k default = (20000, 700) by simp [toes, List.getD_eq_getElem?_getD, List.getElem?_replicate, hk]]
  exact leXL_self _
theorem awake_ok : trueC.ok Try.prog 7 := by
  refine contract Try.func7 v7_is A0_ok 400 trueC fun args k h => ⟨args, ?_⟩
  simp only [trueC] at h
  split at h
  · refine ⟨by simp [leL], ?_⟩
    dsimp only [v7, A0_ct19, A0_ct21, A0_ct22, A0_ct20, A0_ct17, A0_ct12, A0_ct8, A0_ct10, A0_ct18, plC, chaC, samIC, samC, OpC, FoC, ArC, EnC, ChC, TuC, vsI, enc2, enc1, go_sem, Option.bind, Option.map, List.append_nil, Nat.beq, List.cons_append, List.nil_append, List.append_eq, List.map_cons, List.map_nil, ite_self, reduceIte]
    simp only [true_and, and_true, imp_self, implies_true, decide_eq_true_eq, decide_eq_false_iff_not, Nat.reduceAdd, Nat.reduceLeDiff, Bool.not_not, reduceCtorEq, false_imp_iff, Bool.not_eq_true', Bool.not_eq_false', Bool.false_eq_true, and_self, forall_const, ne_eq, not_false_eq_true, Nat.reduceEqDiff]
    have hp : ∀ G : Nat → List SV, leXL (G 0) (encP pal0) → lsP 4 encP 1 4 G [pal0] := fun G hG => ⟨rfl, rfl, fun k hk => match k, hk with | 0, _ => hG⟩
    refine ⟨by decide, by decide, by decide, by decide, by decide, by decide, toes 1, ⟨toes_ls, by simp [toes]⟩, by decide, by decide, by decide, toes 1, [pal0], ⟨toes_ls, hp _ (leXL_self _), by simp [toes], by simp⟩, by decide, by decide, by decide, toes 8, [pal0], ⟨toes_ls, hp _ (leXL_self _), by simp [toes], by simp⟩, ?_⟩
    refine ⟨by decide, by decide, by decide, toes 9, [pal0], ⟨toes_ls, hp _ (leXL_self _), by simp [toes], by simp⟩, by decide, by decide, by decide, by decide, ?_⟩
    have e1 : oF ⟨20000, 200000, 6000, 800000⟩ = (1320000000, 0) := by decide +kernel
    have e2 : fF ⟨20000, 200000, 6000, 800000⟩ 600 = ((3200000, 3200000), 0) := by decide +kernel
    have e3 : aF (toes 1) = ((314159265, 314159266), 0) := by decide +kernel
    have e4 : enoF (toes 1) [pal0] 500 = (-1, 0) := by decide +kernel
    have e5 : choF (toes 8) [pal0] ⟨100, 600, 4000000⟩ = ([0, 0], 0) := by decide +kernel
    have e6 : choF (toes 9) [pal0] ⟨100, 600, 4000000⟩ = ([], 4) := by decide +kernel
    have e7 : tF (10000, 700) 1000000 2 = ((10954, 10955), 0) := by decide +kernel
    simp only [e1, e2, e3, e4, e5, e6, e7]
    simp only [true_and, and_true, imp_self, implies_true, decide_eq_true_eq, decide_eq_false_iff_not, Nat.reduceAdd, Nat.reduceLeDiff, Bool.not_not, reduceCtorEq, false_imp_iff, Bool.not_eq_true', Bool.not_eq_false', Bool.false_eq_true, and_self, forall_const, ne_eq, not_false_eq_true, Nat.reduceEqDiff, decide_true, decide_false, Bool.and_true, Bool.true_and, Bool.and_false, Bool.false_and, Bool.not_true, Bool.not_false, Bool.or_false, Bool.false_or, Bool.or_true, Bool.true_or, Bool.and_self, Bool.or_self, Bool.false_eq_true, Bool.true_eq_false, false_imp_iff, forall_const, true_and, and_true, implies_true, reduceCtorEq, not_true_eq_false, not_false_eq_true, ite_true, ite_false]
    refine ⟨by decide, [0, 0], [0, 0], ⟨lsP_self, ⟨rfl, rfl, fun k hk => match k, hk with | 0, _ => leXL_self _ | 1, _ => leXL_self _⟩, by simp⟩, ?_⟩
    exact ans_bool h
  · exact h.1.elim

/-! ### Shapes -/

def shT : List Sh := [.int .i64, .int .i64]
def shP : List Sh := [.int .i64, .int .i64, .int .i64, .int .i64]
theorem t_of {c : List SV} (h : okSL shT c) : ∃ p : Iv, c = enc2 p := by
  obtain ⟨_, _, rfl, ⟨n1, rfl, _⟩, e1⟩ := okSL_cons_inv h
  obtain ⟨_, _, rfl, ⟨n2, rfl, _⟩, e2⟩ := okSL_cons_inv e1
  cases okSL_nil_inv e2
  exact ⟨(n1, n2), rfl⟩
theorem p_of {c : List SV} (h : okSL shP c) : ∃ p : Plt, c = encP p := by
  obtain ⟨_, _, rfl, ⟨n1, rfl, _⟩, e1⟩ := okSL_cons_inv h
  obtain ⟨_, _, rfl, ⟨n2, rfl, _⟩, e2⟩ := okSL_cons_inv e1
  obtain ⟨_, _, rfl, ⟨n3, rfl, _⟩, e3⟩ := okSL_cons_inv e2
  obtain ⟨_, _, rfl, ⟨n4, rfl, _⟩, e4⟩ := okSL_cons_inv e3
  cases okSL_nil_inv e4
  exact ⟨⟨n1, n2, n3, n4⟩, rfl⟩
theorem sls_of {α : Type} [Inhabited α] {sh : List Sh} {e : α → List SV} (he : ∀ c, okSL sh c → ∃ p, c = e p) {v : SV} (h : okS (.slice sh) v) :
    ∃ (z : Bool) (l : List α), l.length ≤ maxLen ∧ leX v (.vs false z l.length (lenSh sh) (fun k => e (l.getD k default))) :=
  slice_of (fun c hc => let ⟨p, h⟩ := he c hc; ⟨p, by rw [h]; exact leXL_self _⟩) h
end Go.Proofs.Ytngccjllkgpjmaa

/- Chests, in plain Lean: the best choice is the best. -/
/- Chests, in plain Lean: the best choice is the best. -/
set_option linter.all false
namespace Go.Proofs.Ytngccjllkgpjmaa
open Go Go.Vx

/-- Is a list a choice, and how heavy? -/
def isC (a : Iv) (w : Wsh) (l : List Plt) (x : List Int) : Prop := (chcF a w l x).2 = true
/-- One choice is no worse than another one: fewer pallets, lighter, or a lesser list. -/
def betterEq (x y : List Int × Int) : Prop := x.1.length < y.1.length ∨ x.1.length = y.1.length ∧ (x.2 < y.2 ∨ x.2 = y.2 ∧ (x.1 = y.1 ∨ ∃ i, i < x.1.length ∧ (∀ j, j < i → x.1.getD j default = y.1.getD j default) ∧ x.1.getD i default < y.1.getD i default))

theorem chc1 {a : Iv} {w : Wsh} {l : List Plt} {i : Int} : chcF a w l [i] = (if (0 ≤ i ∧ i < l.length) ∧ fh (l.getD i.toNat default) w.pr ≤ w.most then (fh (l.getD i.toNat default) w.pr, decide (cmpF a (openF (l.getD i.toNat default)) w.per = 1)) else (0, false)) := by
  have e1 : okA w l [i] = (decide ((0 ≤ i ∧ i < l.length) ∧ fh (l.getD i.toNat default) w.pr ≤ w.most)) := by
    rw [Bool.eq_iff_iff, decide_eq_true_eq]
    simp [okA, okI, List.range, List.range.loop]
  have e2 : chs l [i] = [l.getD i.toNat default] := rfl
  unfold chcF
  rw [if_neg (by simp), e1, e2]
  simp [wtS, chs, sumO]
theorem chc2 {a : Iv} {w : Wsh} {l : List Plt} {i j : Int} : chcF a w l [i, j] = (if (0 ≤ i ∧ i ≤ j ∧ j < l.length) ∧ fh (l.getD i.toNat default) w.pr ≤ w.most ∧ fh (l.getD j.toNat default) w.pr ≤ w.most then (fh (l.getD i.toNat default) w.pr + fh (l.getD j.toNat default) w.pr, decide (cmpF a (openF (l.getD i.toNat default) + openF (l.getD j.toNat default)) w.per = 1)) else (0, false)) := by
  have e1 : okA w l [i, j] = (decide ((0 ≤ i ∧ i ≤ j ∧ j < l.length) ∧ fh (l.getD i.toNat default) w.pr ≤ w.most ∧ fh (l.getD j.toNat default) w.pr ≤ w.most)) := by
    rw [Bool.eq_iff_iff, decide_eq_true_eq]
    simp [okA, okI, List.range, List.range.loop]
    omega
  have e2 : chs l [i, j] = [l.getD i.toNat default, l.getD j.toNat default] := rfl
  unfold chcF
  rw [if_neg (by simp), e1, e2]
  simp [wtS, chs, sumO]
theorem chc_len {a : Iv} {w : Wsh} {l : List Plt} {x : List Int} (h : (chcF a w l x).2 = true) : x.length = 1 ∨ x.length = 2 := by
  unfold chcF at h
  split at h
  · cases h
  · rename_i hn
    rw [Bool.or_eq_true, decide_eq_true_eq, decide_eq_true_eq] at hn
    omega

/-- What the search holds after some candidates: the best one of those, if any is a choice. -/
structure Inv (a : Iv) (w : Wsh) (l : List Plt) (b : Bst) (P : List Int → Prop) : Prop where
  nil : b.1 = [] → b.2 = 0 ∧ ∀ x, P x → ¬ isC a w l x
  some : b.1 ≠ [] → P b.1 ∧ chcF a w l b.1 = (b.2, true) ∧ ∀ x, P x → isC a w l x → betterEq b (x, (chcF a w l x).1)

theorem better_refl {x : List Int × Int} : betterEq x x := .inr ⟨rfl, .inr ⟨rfl, .inl rfl⟩⟩

/-- One candidate more, which comes after all others. -/
theorem inv_step {a : Iv} {w : Wsh} {l : List Plt} {b : Bst} {P : List Int → Prop} {c : Cnd} (h : Inv a w l b P) (hlen : ∀ x, P x → x.length = c.ids.length) (hne : c.ids ≠ [])
    (hlt : ∀ x, P x → x = c.ids ∨ ∃ i, i < x.length ∧ (∀ j, j < i → x.getD j default = c.ids.getD j default) ∧ x.getD i default < c.ids.getD i default)
    (hc : (isC a w l c.ids ↔ ¬ (w.most < c.hv ∨ cmpF a c.op w.per ≠ 1)) ∧ (isC a w l c.ids → chcF a w l c.ids = (c.wt, true))) :
    Inv a w l (tryF a w b c) (fun x => P x ∨ x = c.ids) := by
  unfold tryF
  split
  · rename_i hno
    have hn : ¬ isC a w l c.ids := fun hi => hc.1.1 hi hno
    refine ⟨fun hb => ⟨(h.nil hb).1, ?_⟩, fun hb => ⟨.inl (h.some hb).1, (h.some hb).2.1, ?_⟩⟩
    · rintro x (hx | rfl)
      · exact (h.nil hb).2 x hx
      · exact hn
    · rintro x (hx | rfl) hi
      · exact (h.some hb).2.2 x hx hi
      · exact absurd hi hn
  · rename_i hyes
    have hi := hc.1.2 hyes
    have hv := hc.2 hi
    split
    · rename_i hr
      refine ⟨fun hb => absurd hb hne, fun _ => ⟨.inr rfl, hv, ?_⟩⟩
      rintro x (hx | rfl) hxi
      · rcases hr with hb | hw
        · exact absurd hxi ((h.nil hb).2 x hx)
        · by_cases hb : b.1 = []
          · exact absurd hxi ((h.nil hb).2 x hx)
          · have := (h.some hb).2.2 x hx hxi
            have hl1 := hlen _ (h.some hb).1
            have hl2 := hlen _ hx
            refine .inr ⟨by show c.ids.length = x.length; omega, .inl ?_⟩
            show c.wt < (chcF a w l x).1
            rcases this with h | ⟨_, h | ⟨h, _⟩⟩
            · dsimp only at h; omega
            · dsimp only at h; omega
            · dsimp only at h; omega
      · rw [hv]; exact better_refl
    · rename_i hr
      have hb : b.1 ≠ [] := fun h => hr (.inl h)
      refine ⟨fun h => absurd h hb, fun _ => ⟨.inl (h.some hb).1, (h.some hb).2.1, ?_⟩⟩
      rintro x (hx | rfl) hxi
      · exact (h.some hb).2.2 x hx hxi
      · rw [hv]
        have hl1 := hlen _ (h.some hb).1
        refine .inr ⟨hl1, ?_⟩
        show b.2 < c.wt ∨ b.2 = c.wt ∧ _
        rcases Int.lt_or_le b.2 c.wt with h1 | h1
        · exact .inl h1
        · refine .inr ⟨by have : ¬ c.wt < b.2 := fun h => hr (.inr h)
                          omega, ?_⟩
          exact hlt _ (h.some hb).1
theorem Inv.cong {a : Iv} {w : Wsh} {l : List Plt} {b : Bst} {P Q : List Int → Prop} (h : Inv a w l b P) (hpq : ∀ x, P x ↔ Q x) : Inv a w l b Q :=
  ⟨fun hb => ⟨(h.nil hb).1, fun x hx => (h.nil hb).2 x ((hpq x).2 hx)⟩, fun hb => ⟨(hpq _).1 (h.some hb).1, (h.some hb).2.1, fun x hx => (h.some hb).2.2 x ((hpq x).2 hx)⟩⟩

def Pn1 (i : Nat) (x : List Int) : Prop := ∃ k : Nat, k < i ∧ x = [(k : Int)]
theorem ones_inv {a : Iv} {w : Wsh} {l : List Plt} : ∀ {i : Nat}, i ≤ l.length → Inv a w l (ones1 a w l i) (Pn1 i)
  | 0, _ => ⟨fun _ => ⟨rfl, fun x ⟨k, hk, _⟩ => by omega⟩, fun h => absurd rfl h⟩
  | i + 1, hi => by
    have ih := ones_inv (a := a) (w := w) (l := l) (i := i) (by omega)
    have hs := inv_step (c := cand1 w l i) ih (fun x ⟨k, _, hx⟩ => by rw [hx]; rfl) (by simp [cand1]) (fun x ⟨k, hk, hx⟩ => .inr ⟨0, by rw [hx]; simp, fun j hj => by omega, by rw [hx]; simp [cand1]; exact_mod_cast hk⟩) ?_
    · refine hs.cong fun x => ⟨?_, ?_⟩
      · rintro (⟨k, hk, rfl⟩ | rfl)
        · exact ⟨k, by omega, rfl⟩
        · exact ⟨i, by omega, rfl⟩
      · rintro ⟨k, hk, rfl⟩
        rcases Nat.lt_or_ge k i with h | h
        · exact .inl ⟨k, h, rfl⟩
        · obtain rfl : k = i := by omega
          exact .inr rfl
    · unfold isC cand1
      dsimp only
      rw [chc1]
      have e : ((i : Int)).toNat = i := Int.toNat_natCast i
      rw [e]
      generalize fh (l.getD i default) w.pr = f
      generalize cmpF a (openF (l.getD i default)) w.per = g
      by_cases hm : f ≤ w.most
      · rw [if_pos ⟨⟨by omega, by omega⟩, hm⟩]
        by_cases hcm : g = 1
        · simp [hcm]; omega
        · simp [hcm]
      · rw [if_neg (fun h => hm h.2)]
        simp; omega

def Pn2 (i d : Nat) (n : Nat) (x : List Int) : Prop := ∃ k m : Nat, k ≤ m ∧ m < n ∧ (k < i ∨ k = i ∧ m < i + d) ∧ x = [(k : Int), (m : Int)]
theorem row_inv {a : Iv} {w : Wsh} {l : List Plt} {i : Nat} {b : Bst} (hi : i < l.length) (hb : Inv a w l b (Pn2 i 0 l.length)) : ∀ {d : Nat}, d ≤ l.length - i → Inv a w l (row2 a w l i b d) (Pn2 i d l.length)
  | 0, _ => hb
  | d + 1, hd => by
    have ih := row_inv hi hb (d := d) (by omega)
    have hs := inv_step (c := cand2 w l i (i + d)) ih (fun x ⟨k, m, _, _, _, hx⟩ => by rw [hx]; rfl) (by simp [cand2]) ?_ ?_
    · refine hs.cong fun x => ⟨?_, ?_⟩
      · rintro (⟨k, m, h1, h2, h3, rfl⟩ | rfl)
        · exact ⟨k, m, h1, h2, by omega, rfl⟩
        · exact ⟨i, i + d, by omega, by omega, by omega, rfl⟩
      · rintro ⟨k, m, h1, h2, h3, rfl⟩
        by_cases h : k = i ∧ m = i + d
        · obtain ⟨rfl, rfl⟩ := h
          exact .inr rfl
        · exact .inl ⟨k, m, h1, h2, by omega, rfl⟩
    · rintro x ⟨k, m, h1, h2, h3, rfl⟩
      rcases h3 with h3 | ⟨rfl, h3⟩
      · exact .inr ⟨0, by simp, fun j hj => by omega, by simp [cand2]; exact_mod_cast h3⟩
      · refine .inr ⟨1, by simp, fun j hj => ?_, ?_⟩
        · obtain rfl : j = 0 := by omega
          rfl
        · show (m : Int) < ((k + d : Nat) : Int)
          omega
    · unfold isC cand2
      dsimp only
      rw [chc2]
      have e : ((i : Int)).toNat = i := Int.toNat_natCast i
      have e' : (((i + d : Nat) : Int)).toNat = i + d := Int.toNat_natCast _
      rw [e, e']
      generalize fh (l.getD i default) w.pr = f
      generalize fh (l.getD (i + d) default) w.pr = f'
      generalize cmpF a (openF (l.getD i default) + openF (l.getD (i + d) default)) w.per = g
      by_cases hm : f ≤ w.most ∧ f' ≤ w.most
      · rw [if_pos ⟨⟨by omega, by omega, by omega⟩, hm⟩]
        by_cases hcm : g = 1
        · simp [hcm]; omega
        · simp [hcm]
      · rw [if_neg (fun h => hm h.2)]
        simp; omega
theorem twos_inv {a : Iv} {w : Wsh} {l : List Plt} {b : Bst} (hb : Inv a w l b (fun _ => False)) : ∀ {i : Nat}, i ≤ l.length → Inv a w l (twos a w l b i) (Pn2 i 0 l.length)
  | 0, _ => hb.cong fun x => ⟨False.elim, fun ⟨k, m, _, _, h, _⟩ => by omega⟩
  | i + 1, hi => by
    have ih := twos_inv hb (i := i) (by omega)
    have := row_inv (by omega : i < l.length) ih (d := l.length - i) (Nat.le_refl _)
    refine this.cong fun x => ⟨?_, ?_⟩
    · rintro ⟨k, m, h1, h2, h3, rfl⟩
      exact ⟨k, m, h1, h2, by omega, rfl⟩
    · rintro ⟨k, m, h1, h2, h3, rfl⟩
      exact ⟨k, m, h1, h2, by omega, rfl⟩

theorem one_P {a : Iv} {w : Wsh} {l : List Plt} {x : List Int} (h : isC a w l x) (hl : x.length = 1) : Pn1 l.length x := by
  obtain ⟨i, rfl⟩ := List.length_eq_one_iff.1 hl
  unfold isC at h
  rw [chc1] at h
  split at h
  · rename_i hh
    exact ⟨i.toNat, by omega, by rw [Int.toNat_of_nonneg hh.1.1]⟩
  · cases h
theorem two_P {a : Iv} {w : Wsh} {l : List Plt} {x : List Int} (h : isC a w l x) (hl : x.length = 2) : Pn2 l.length 0 l.length x := by
  obtain ⟨i, j, rfl⟩ : ∃ i j, x = [i, j] := by
    match x, hl with
    | [i, j], _ => exact ⟨i, j, rfl⟩
  unfold isC at h
  rw [chc2] at h
  split at h
  · rename_i hh
    exact ⟨i.toNat, j.toNat, by omega, by omega, by omega, by rw [Int.toNat_of_nonneg hh.1.1, Int.toNat_of_nonneg (by omega)]⟩
  · cases h

/-- THE BEST CHOICE IS THE BEST ONE. -/
theorem best_none {a : Iv} {w : Wsh} {l : List Plt} (h : bestF a w l = []) (x : List Int) : ¬ isC a w l x := by
  intro hx
  unfold bestF at h
  split at h
  · rename_i hn; exact hn h
  · rename_i hn
    have hn : (ones1 a w l l.length).1 = [] := Classical.not_not.1 hn
    have h1 := (ones_inv (a := a) (w := w) (Nat.le_refl l.length)).nil hn
    have hb : Inv a w l (ones1 a w l l.length) (fun _ => False) := ⟨fun _ => ⟨h1.1, fun _ h => h.elim⟩, fun h => absurd hn h⟩
    have h2 := (twos_inv hb (Nat.le_refl l.length)).nil h
    rcases chc_len hx with hl | hl
    · exact h1.2 x (one_P hx hl) hx
    · exact h2.2 x (two_P hx hl) hx
theorem best_some {a : Iv} {w : Wsh} {l : List Plt} (h : bestF a w l ≠ []) : ∃ v, chcF a w l (bestF a w l) = (v, true) ∧ ∀ x, isC a w l x → betterEq (bestF a w l, v) (x, (chcF a w l x).1) := by
  unfold bestF at h ⊢
  split at h
  · rename_i hn
    rw [if_pos hn]
    obtain ⟨⟨k, hk, hb⟩, h2, h3⟩ := (ones_inv (a := a) (w := w) (Nat.le_refl l.length)).some hn
    refine ⟨_, h2, fun x hx => ?_⟩
    rcases chc_len hx with hl | hl
    · exact h3 x (one_P hx hl) hx
    · refine .inl ?_
      dsimp only
      rw [hb, hl]; simp
  · rename_i hn
    rw [if_neg hn]
    have hn : (ones1 a w l l.length).1 = [] := Classical.not_not.1 hn
    have h1 := (ones_inv (a := a) (w := w) (Nat.le_refl l.length)).nil hn
    have hb : Inv a w l (ones1 a w l l.length) (fun _ => False) := ⟨fun _ => ⟨h1.1, fun _ h => h.elim⟩, fun h => absurd hn h⟩
    obtain ⟨_, h2, h3⟩ := (twos_inv hb (Nat.le_refl l.length)).some h
    refine ⟨_, h2, fun x hx => ?_⟩
    rcases chc_len hx with hl | hl
    · exact absurd hx (h1.2 x (one_P hx hl))
    · exact h3 x (two_P hx hl) hx
end Go.Proofs.Ytngccjllkgpjmaa

/- Chests, walked: the law of the best choice. -/
/- Chests, walked: the law of the best choice. -/
set_option linter.all false
namespace Go.Proofs.Ytngccjllkgpjmaa
open Go Go.Vx
set_option maxRecDepth 100000
set_option maxHeartbeats 4000000

def v4 : VF := { ntmps := 150, res := [.tmp 4], body :=
 (.seq (.region [⟨(some 2), none, .box, [.tm 0]⟩,
  ⟨(some 4), none, .mov, [.cn (.bool false)]⟩])
 (.seq (.draw [(5, .box [.nil]), (6, .box [(.int .i64 0), (.int .i64 0), (.int .i64 0)])] [⟨⟨(some 15), none, (.fieldAddr 0), [.tm 2]⟩, []⟩,
  ⟨⟨(some 16), none, (.load true 1), [.tm 15]⟩, []⟩,
  ⟨⟨(some 17), none, (.fieldAddr 1), [.tm 2]⟩, []⟩,
  ⟨⟨(some 18), none, (.load true 3), [.tm 17]⟩, []⟩,
  ⟨⟨(some 19), none, (.fieldAddr 4), [.tm 2]⟩, []⟩,
  ⟨⟨(some 20), none, (.load false 1), [.tm 19]⟩, []⟩,
  ⟨⟨none, none, (.store 1), [.tm 5, .tm 16]⟩, [.tm 17, .tm 19]⟩,
  ⟨⟨none, none, (.store 3), [.tm 6, .tm 18]⟩, [.tm 19]⟩,
  ⟨⟨(some 7), none, .mov, [.tm 20]⟩, []⟩])
 (.seq (.seq (.region [⟨(some 21), none, (.fieldAddr 0), [.tm 5]⟩,
  ⟨(some 22), none, (.load false 1), [.tm 21]⟩,
  ⟨(some 23), none, .len, [.tm 22]⟩,
  ⟨(some 24), none, (.cmp .gtr), [.tm 23, .cn (.int .i64 30)]⟩,
  ⟨(some 25), none, .mov, [.tm 24]⟩,
  ⟨(some 26), (some (25, false)), .mov, [.tm 1]⟩,
  ⟨(some 27), (some (25, false)), .len, [.tm 26]⟩,
  ⟨(some 28), (some (25, false)), (.cmp .gtr), [.tm 27, .cn (.int .i64 50)]⟩,
  ⟨(some 29), none, .or, [.tm 25, .tm 28]⟩,
  ⟨(some 30), none, .mov, [.tm 29]⟩,
  ⟨(some 31), (some (30, false)), .mov, [.tm 7]⟩,
  ⟨(some 32), (some (30, false)), .len, [.tm 31]⟩,
  ⟨(some 33), (some (30, false)), (.cmp .gtr), [.tm 32, .cn (.int .i64 3)]⟩,
  ⟨(some 34), none, .or, [.tm 30, .tm 33]⟩])
 (.cond (.tm 34) (.seq (.region [⟨(some 35), none, (.call 7), []⟩,
  ⟨(some 4), none, .mov, [.tm 35]⟩])
 .ret)
  .skip))
 (.seq (.region [⟨(some 37), none, (.load true 1), [.tm 5]⟩,
  ⟨(some 38), none, .mov, [.tm 1]⟩,
  ⟨(some 39), none, (.load true 3), [.tm 6]⟩,
  ⟨(some 40), none, (.call 10), [.tm 37, .tm 38, .tm 39]⟩,
  ⟨(some 36), none, .mov, [.tm 40]⟩,
  ⟨(some 41), none, (.ext 0), [.tm 36]⟩,
  ⟨(some 42), none, (.ext 1), [.tm 36]⟩,
  ⟨(some 8), none, .mov, [.tm 41]⟩,
  ⟨(some 9), none, .mov, [.tm 42]⟩])
 (.seq (.seq (.region [⟨(some 43), none, .mov, [.tm 9]⟩,
  ⟨(some 44), none, (.cmp .eql), [.tm 43, .cn (.int .i64 2)]⟩,
  ⟨(some 45), none, .mov, [.tm 44]⟩,
  ⟨(some 46), (some (45, false)), .mov, [.tm 9]⟩,
  ⟨(some 47), (some (45, false)), (.cmp .eql), [.tm 46, .cn (.int .i64 3)]⟩,
  ⟨(some 48), none, .or, [.tm 45, .tm 47]⟩])
 (.cond (.tm 48) (.seq (.region [⟨(some 49), none, .mov, [.tm 8]⟩,
  ⟨(some 50), none, .len, [.tm 49]⟩,
  ⟨(some 51), none, (.cmp .eql), [.tm 50, .cn (.int .i64 0)]⟩,
  ⟨(some 52), none, .mov, [.tm 51]⟩,
  ⟨(some 53), (some (52, true)), (.call 7), []⟩,
  ⟨(some 54), none, .and, [.tm 52, .tm 53]⟩,
  ⟨(some 4), none, .mov, [.tm 54]⟩])
 .ret)
  .skip))
 (.seq (.region [⟨(some 56), none, (.load true 1), [.tm 5]⟩,
  ⟨(some 57), none, .mov, [.tm 1]⟩,
  ⟨(some 58), none, (.load true 3), [.tm 6]⟩,
  ⟨(some 59), none, .mov, [.tm 8]⟩,
  ⟨(some 60), none, (.call 11), [.tm 56, .tm 57, .tm 58, .tm 59]⟩,
  ⟨(some 55), none, .mov, [.tm 60]⟩,
  ⟨(some 61), none, (.ext 0), [.tm 55]⟩,
  ⟨(some 62), none, (.ext 1), [.tm 55]⟩,
  ⟨(some 10), none, .mov, [.tm 61]⟩,
  ⟨(some 11), none, .mov, [.tm 62]⟩])
 (.seq (.region [⟨(some 64), none, (.load true 1), [.tm 5]⟩,
  ⟨(some 65), none, .mov, [.tm 1]⟩,
  ⟨(some 66), none, (.load true 3), [.tm 6]⟩,
  ⟨(some 67), none, .mov, [.tm 7]⟩,
  ⟨(some 68), none, (.call 11), [.tm 64, .tm 65, .tm 66, .tm 67]⟩,
  ⟨(some 63), none, .mov, [.tm 68]⟩,
  ⟨(some 69), none, (.ext 0), [.tm 63]⟩,
  ⟨(some 70), none, (.ext 1), [.tm 63]⟩,
  ⟨(some 12), none, .mov, [.tm 69]⟩,
  ⟨(some 13), none, .mov, [.tm 70]⟩])
 (.seq (.seq (.region [⟨(some 71), none, .mov, [.tm 9]⟩,
  ⟨(some 72), none, (.cmp .neq), [.tm 71, .cn (.int .i64 0)]⟩])
 (.cond (.tm 72) (.seq (.region [⟨(some 73), none, .mov, [.tm 9]⟩,
  ⟨(some 74), none, (.cmp .eql), [.tm 73, .cn (.int .i64 4)]⟩,
  ⟨(some 75), none, .mov, [.tm 74]⟩,
  ⟨(some 76), (some (75, true)), .mov, [.tm 8]⟩,
  ⟨(some 77), (some (75, true)), .len, [.tm 76]⟩,
  ⟨(some 78), (some (75, true)), (.cmp .eql), [.tm 77, .cn (.int .i64 0)]⟩,
  ⟨(some 79), none, .and, [.tm 75, .tm 78]⟩,
  ⟨(some 80), none, .mov, [.tm 79]⟩,
  ⟨(some 81), (some (80, true)), .mov, [.tm 13]⟩,
  ⟨(some 82), (some (80, true)), .not, [.tm 81]⟩,
  ⟨(some 83), none, .and, [.tm 80, .tm 82]⟩,
  ⟨(some 84), none, .mov, [.tm 83]⟩,
  ⟨(some 85), (some (84, true)), (.call 7), []⟩,
  ⟨(some 86), none, .and, [.tm 84, .tm 85]⟩,
  ⟨(some 4), none, .mov, [.tm 86]⟩])
 .ret)
  .skip))
 (.seq (.seq (.region [⟨(some 87), none, .mov, [.tm 11]⟩,
  ⟨(some 88), none, .not, [.tm 87]⟩])
 (.cond (.tm 88) (.seq (.region [⟨(some 4), none, .mov, [.cn (.bool false)]⟩])
 .ret)
  .skip))
 (.seq (.seq (.region [⟨(some 89), none, .mov, [.tm 13]⟩,
  ⟨(some 90), none, .not, [.tm 89]⟩])
 (.cond (.tm 90) (.seq (.region [⟨(some 91), none, (.call 7), []⟩,
  ⟨(some 4), none, .mov, [.tm 91]⟩])
 .ret)
  .skip))
 (.seq (.seq (.region [⟨(some 92), none, .mov, [.tm 8]⟩,
  ⟨(some 93), none, .len, [.tm 92]⟩,
  ⟨(some 94), none, .mov, [.tm 7]⟩,
  ⟨(some 95), none, .len, [.tm 94]⟩,
  ⟨(some 96), none, (.cmp .neq), [.tm 93, .tm 95]⟩,
  ⟨(some 97), none, .mov, [.tm 96]⟩,
  ⟨(some 98), (some (97, false)), .mov, [.tm 10]⟩,
  ⟨(some 99), (some (97, false)), .mov, [.tm 12]⟩,
  ⟨(some 100), (some (97, false)), (.cmp .neq), [.tm 98, .tm 99]⟩,
  ⟨(some 101), none, .or, [.tm 97, .tm 100]⟩])
 (.cond (.tm 101) (.seq (.region [⟨(some 102), none, .mov, [.tm 8]⟩,
  ⟨(some 103), none, .len, [.tm 102]⟩,
  ⟨(some 104), none, .mov, [.tm 7]⟩,
  ⟨(some 105), none, .len, [.tm 104]⟩,
  ⟨(some 106), none, (.cmp .lss), [.tm 103, .tm 105]⟩,
  ⟨(some 107), none, .mov, [.tm 106]⟩,
  ⟨(some 108), (some (107, false)), .mov, [.tm 8]⟩,
  ⟨(some 109), (some (107, false)), .len, [.tm 108]⟩,
  ⟨(some 110), (some (107, false)), .mov, [.tm 7]⟩,
  ⟨(some 111), (some (107, false)), .len, [.tm 110]⟩,
  ⟨(some 112), (some (107, false)), (.cmp .eql), [.tm 109, .tm 111]⟩,
  ⟨(some 113), (some (107, false)), .mov, [.tm 112]⟩,
  ⟨(some 114), (some (113, true)), .mov, [.tm 10]⟩,
  ⟨(some 115), (some (113, true)), .mov, [.tm 12]⟩,
  ⟨(some 116), (some (113, true)), (.cmp .lss), [.tm 114, .tm 115]⟩,
  ⟨(some 117), (some (107, false)), .and, [.tm 113, .tm 116]⟩,
  ⟨(some 118), none, .or, [.tm 107, .tm 117]⟩,
  ⟨(some 119), none, .mov, [.tm 118]⟩,
  ⟨(some 120), (some (119, true)), (.call 7), []⟩,
  ⟨(some 121), none, .and, [.tm 119, .tm 120]⟩,
  ⟨(some 4), none, .mov, [.tm 121]⟩])
 .ret)
  .skip))
 (.seq (.seq (.region [⟨(some 14), none, .mov, [.cn (.int .i64 0)]⟩])
 (.block 0 (.loop (.seq (.seq (.region [⟨(some 122), none, .mov, [.tm 14]⟩,
  ⟨(some 123), none, .mov, [.tm 8]⟩,
  ⟨(some 124), none, .len, [.tm 123]⟩,
  ⟨(some 125), none, (.cmp .lss), [.tm 122, .tm 124]⟩])
 (.cond (.tm 125) .skip
  (.exit 0)))
 (.seq (.block 1 (.seq (.draw [] [⟨⟨(some 128), none, .mov, [.tm 8]⟩, []⟩,
  ⟨⟨(some 129), none, .mov, [.tm 14]⟩, []⟩,
  ⟨⟨(some 130), none, (.idxAddr 1), [.tm 128, .tm 129]⟩, []⟩,
  ⟨⟨(some 131), none, (.load false 1), [.tm 130]⟩, []⟩,
  ⟨⟨(some 132), none, .mov, [.tm 7]⟩, []⟩,
  ⟨⟨(some 133), none, .mov, [.tm 14]⟩, []⟩,
  ⟨⟨(some 134), none, (.idxAddr 1), [.tm 132, .tm 133]⟩, []⟩,
  ⟨⟨(some 135), none, (.load false 1), [.tm 134]⟩, []⟩,
  ⟨⟨(some 136), none, (.cmp .neq), [.tm 131, .tm 135]⟩, []⟩])
 (.cond (.tm 136) (.seq (.draw [] [⟨⟨(some 137), none, .mov, [.tm 8]⟩, []⟩,
  ⟨⟨(some 138), none, .mov, [.tm 14]⟩, []⟩,
  ⟨⟨(some 139), none, (.idxAddr 1), [.tm 137, .tm 138]⟩, []⟩,
  ⟨⟨(some 140), none, (.load false 1), [.tm 139]⟩, []⟩,
  ⟨⟨(some 141), none, .mov, [.tm 7]⟩, []⟩,
  ⟨⟨(some 142), none, .mov, [.tm 14]⟩, []⟩,
  ⟨⟨(some 143), none, (.idxAddr 1), [.tm 141, .tm 142]⟩, []⟩,
  ⟨⟨(some 144), none, (.load false 1), [.tm 143]⟩, []⟩,
  ⟨⟨(some 145), none, (.cmp .lss), [.tm 140, .tm 144]⟩, []⟩,
  ⟨⟨(some 146), none, .mov, [.tm 145]⟩, []⟩,
  ⟨⟨(some 147), (some (146, true)), (.call 7), []⟩, []⟩,
  ⟨⟨(some 148), none, .and, [.tm 146, .tm 147]⟩, []⟩,
  ⟨⟨(some 4), none, .mov, [.tm 148]⟩, []⟩])
 .ret)
  .skip)))
 (.region [⟨(some 126), none, .mov, [.tm 14]⟩,
  ⟨(some 127), none, (.ari .add), [.tm 126, .cn (.int .i64 1)]⟩,
  ⟨(some 14), none, .mov, [.tm 127]⟩]))))))
 (.seq (.region [⟨(some 149), none, (.call 7), []⟩,
  ⟨(some 4), none, .mov, [.tm 149]⟩])
 .ret))))))))))))) }
theorem v4_is : vfunc Try.prog Try.f4 = some v4 := by kernel_rfl


def shI1 : List Sh := [.int .i64]
theorem i_of {c : List SV} (h : okSL shI1 c) : ∃ p : Int, c = enc1 p := by
  obtain ⟨_, _, rfl, ⟨n1, rfl, _⟩, e1⟩ := okSL_cons_inv h
  cases okSL_nil_inv e1
  exact ⟨n1, rfl⟩
def shWt : List Sh := [.slice shT, .int .i64, .int .i64, .int .i64, .slice shI1, .int .i64, .int .i64, .int .u16]
theorem w_of {c : List SV} (h : okSL shWt c) : ∃ (z z' : Bool) (l : List Iv) (a b e : Int) (m : List Int) (x y q : Int), l.length ≤ maxLen ∧ m.length ≤ maxLen ∧ (0 ≤ q ∧ q ≤ 65535) ∧
    leXL c [.vs false z l.length 2 (fun k => enc2 (l.getD k default)), .int .i64 a, .int .i64 b, .int .i64 e, .vs false z' m.length 1 (fun k => enc1 (m.getD k default)), .int .i64 x, .int .i64 y, .int .u16 q] := by
  obtain ⟨_, _, rfl, h1, e1⟩ := okSL_cons_inv h
  obtain ⟨_, _, rfl, ⟨n2, rfl, _⟩, e2⟩ := okSL_cons_inv e1
  obtain ⟨_, _, rfl, ⟨n3, rfl, _⟩, e3⟩ := okSL_cons_inv e2
  obtain ⟨_, _, rfl, ⟨n4, rfl, _⟩, e4⟩ := okSL_cons_inv e3
  obtain ⟨_, _, rfl, h5, e5⟩ := okSL_cons_inv e4
  obtain ⟨_, _, rfl, ⟨n6, rfl, _⟩, e6⟩ := okSL_cons_inv e5
  obtain ⟨_, _, rfl, ⟨n7, rfl, _⟩, e7⟩ := okSL_cons_inv e6
  obtain ⟨_, _, rfl, ⟨n8, rfl, h8⟩, e8⟩ := okSL_cons_inv e7
  cases okSL_nil_inv e8
  obtain ⟨z, l, hl, hle⟩ := sls_of (fun _ => t_of) h1
  obtain ⟨z', m, hm, hme⟩ := sls_of (fun _ => i_of) h5
  refine ⟨z, z', l, n2, n3, n4, m, n6, n7, n8, hl, hm, ?_, hle, ⟨rfl, rfl⟩, ⟨rfl, rfl⟩, ⟨rfl, rfl⟩, hme, ⟨rfl, rfl⟩, ⟨rfl, rfl⟩, ⟨rfl, rfl⟩, trivial⟩
  simp only [Lit.wf, Bool.and_eq_true, decide_eq_true_eq] at h8
  have h8' : 0 ≤ n8 ∧ n8 ≤ 65535 := h8
  exact h8'

theorem cho_bad {c : List Iv} {l : List Plt} {w : Wsh} (h : (choF c l w).2 = 2 ∨ (choF c l w).2 = 3) : (choF c l w).1 = [] := by
  unfold choF at *
  split
  · rfl
  · rename_i h1
    rw [if_neg h1] at h
    split
    · rfl
    · rename_i h2
      rw [if_neg h2] at h
      split
      · rename_i h3
        rw [if_pos h3] at h
        rcases h with h | h <;> cases h
      · rfl
theorem cho_good {c : List Iv} {l : List Plt} {w : Wsh} (h : ¬ ((choF c l w).2 = 2 ∨ (choF c l w).2 = 3)) : chkT c = 0 ∧ l.length ≤ 40 ∧ (∀ p ∈ l, palB p = false) ∧ wshB w = false ∧ choF c l w = (if bestF (areaF c) w l ≠ [] then (bestF (areaF c) w l, 0) else ([], 4)) := by
  unfold choF at *
  split at h
  · exact absurd (.inr rfl) h
  · rename_i h1
    rw [if_neg h1]
    split at h
    · exact absurd (.inl rfl) h
    · rename_i h2
      rw [if_neg h2]
      rw [Bool.not_eq_true, Bool.or_eq_false_iff, decide_eq_false_iff_not, decide_eq_false_iff_not] at h1
      rw [Bool.not_eq_true, Bool.or_eq_false_iff, Bool.or_eq_false_iff, Bool.not_eq_false', decide_eq_true_eq] at h2
      exact ⟨h2.1, by omega, any_f h2.2.1, h2.2.2, rfl⟩

def A2 : Env := { ct := fun n => match n with | 7 => some trueC | 10 => some ChC | 11 => some ChoC | _ => none, fn := fun _ => none, meth := fun _ _ => none }
theorem A2_ct7 : A2.ct 7 = some trueC := rfl
theorem A2_ct10 : A2.ct 10 = some ChC := rfl
theorem A2_ct11 : A2.ct 11 = some ChoC := rfl
theorem A2_ok : EnvOk Try.prog A2 := by
  refine ⟨fun f c h => ?_, fun f vf h => ?_, (fun _ _ _ h => by cases h), by kernel_rfl⟩
  · simp only [A2] at h
    split at h
    · cases h; exact ⟨awake_ok, Try.f7, Try.func7, by kernel_rfl, by kernel_rfl⟩
    · cases h; exact ⟨Ch_ok, Try.f10, Try.func10, by kernel_rfl, by kernel_rfl⟩
    · cases h; exact ⟨Cho_ok, Try.f11, Try.func11, by kernel_rfl, by kernel_rfl⟩
    · cases h
  · cases h

def lawB : List PSh := [⟨true, shWt⟩, ⟨false, [.slice shP]⟩]
theorem lawBest : (lawC lawB).ok Try.prog 4 := by
  refine contract Try.func4 v4_is A2_ok 400 (lawC lawB) fun args k h => ?_
  obtain ⟨ha, hk⟩ := h
  obtain ⟨_, _, rfl, h1, e1⟩ := okPL_cons_inv ha
  obtain ⟨cs, rfl, hcs⟩ := okP_agg_inv h1
  obtain ⟨v, _, rfl, h2, e2⟩ := okPL_cons_inv e1
  cases okPL_nil_inv e2
  obtain ⟨z, zm, c, per, pr, most, m, tx, ty, q, hcl, hml, hq, hce⟩ := w_of hcs
  obtain ⟨z', l, hll, hle⟩ := sls_of (fun _ => p_of) (okP_one_inv h2)
  rw [maxLen_eq] at hcl hll hml
  refine ⟨[.agg [.vs false z c.length 2 (fun k => enc2 (c.getD k default)), .int .i64 per, .int .i64 pr, .int .i64 most, .vs false zm m.length 1 (fun k => enc1 (m.getD k default)), .int .i64 tx, .int .i64 ty, .int .u16 q], .vs false z' l.length 4 (fun k => encP (l.getD k default))], ⟨leXL_le _ _ hce (by simp [bndL, bnd]), leX_le _ _ hle trivial, trivial⟩, ?_⟩
  dsimp only [v4, A2_ct7, A2_ct10, A2_ct11, trueC, ChC, ChoC, vsI, enc1, enc2, encP, go_sem, Option.bind, Option.map, List.append_nil, Nat.beq, List.cons_append, List.nil_append, List.append_eq, List.map_cons, List.map_nil, ite_self, reduceIte]
  simp only [true_and, and_true, imp_self, implies_true, decide_eq_true_eq, decide_eq_false_iff_not, Nat.reduceAdd, Nat.reduceLeDiff, Bool.not_not, reduceCtorEq, false_imp_iff, Bool.not_eq_true', Bool.not_eq_false', Bool.false_eq_true, and_self, forall_const, ne_eq, not_false_eq_true, Nat.reduceEqDiff]
  have hk' : k (.bool true) [] := hk
  refine ⟨fun _ => ans_bool hk', fun hf => ?_⟩
  rw [Bool.or_eq_false_iff, Bool.or_eq_false_iff, decide_eq_false_iff_not, decide_eq_false_iff_not, decide_eq_false_iff_not] at hf
  refine ⟨c, l, ⟨lsP_self, lsP_self, by omega, by omega⟩, by decide, by decide, fun hb => ?_, fun hg => ?_⟩
  · rw [Bool.or_eq_true, decide_eq_true_eq, decide_eq_true_eq] at hb
    rw [cho_bad hb]
    exact ans_bool (by simpa using hk')
  · rw [Bool.or_eq_false_iff, decide_eq_false_iff_not, decide_eq_false_iff_not] at hg
    obtain ⟨hc0, hl40, hv, hw, hcho⟩ := cho_good (c := c) (l := l) (w := ⟨per, pr, most⟩) (by omega)
    obtain ⟨X, hX⟩ : ∃ X, X = (choF c l ⟨per, pr, most⟩).1 := ⟨_, rfl⟩
    obtain ⟨e, he⟩ : ∃ e, e = (choF c l ⟨per, pr, most⟩).2 := ⟨_, rfl⟩
    rw [← hX, ← he]
    have hxl : X.length ≤ 1000000000000 := by
      rw [hX, hcho]
      split
      · rename_i hb
        obtain ⟨v, hv1, _⟩ := best_some hb
        have := chc_len (x := bestF (areaF c) ⟨per, pr, most⟩ l) (by rw [hv1])
        show (bestF (areaF c) ⟨per, pr, most⟩ l).length ≤ _
        omega
      · exact Nat.zero_le _
    refine ⟨c, l, X, ⟨lsP_self, lsP_self, lsP_self, hc0, by omega, hxl, hv, hw⟩, by decide, by decide, c, l, m, ⟨lsP_self, lsP_self, lsP_self, hc0, by omega, by omega, hv, hw⟩, by decide, by decide, fun hne => ?_, fun h0 => ?_⟩
    · have hno : ¬ bestF (areaF c) ⟨per, pr, most⟩ l ≠ [] := fun hh => by
        rw [hcho, if_pos hh] at he
        exact hne he
      have hb : bestF (areaF c) ⟨per, pr, most⟩ l = [] := Classical.not_not.1 hno
      rw [hcho, if_neg hno] at he hX
      have hm := best_none hb m
      unfold isC at hm
      rw [Bool.not_eq_true] at hm
      rw [he, hX, hm]
      exact ans_bool hk'
    · have hsome : bestF (areaF c) ⟨per, pr, most⟩ l ≠ [] := fun hh => by
        rw [hcho, if_neg (fun h => h hh)] at he
        rw [h0] at he; cases he
      rw [hcho, if_pos hsome] at hX
      have hX : X = bestF (areaF c) ⟨per, pr, most⟩ l := hX
      obtain ⟨v, hv1, hv2⟩ := best_some hsome
      rw [← hX] at hv1 hv2
      have hmb : (chcF (areaF c) ⟨per, pr, most⟩ l m).2 = true → betterEq (X, v) (m, (chcF (areaF c) ⟨per, pr, most⟩ l m).1) := hv2 m
      have hx2 := chc_len (x := X) (by rw [hv1])
      rw [hv1]
      dsimp only
      generalize chcF (areaF c) ⟨per, pr, most⟩ l m = M at *
      refine ⟨(fun h => by cases h), (fun _ => ⟨fun _ => ans_bool hk', fun hM => ?_⟩)⟩
      have hbe := hmb hM
      unfold betterEq at hbe
      dsimp only at hbe
      refine ⟨fun hd => ⟨fun h1 h2 => by rw [decide_eq_false h1, decide_eq_true h2]; rfl, ?_⟩, fun hd => ?_⟩
      · rw [Bool.or_eq_true, Bool.not_eq_true', Bool.not_eq_true', decide_eq_false_iff_not, decide_eq_false_iff_not] at hd
        have : (decide ((X.length : Int) < m.length) || decide ((X.length : Int) = m.length) && decide (v < M.1)) = true := by
          rw [Bool.or_eq_true, Bool.and_eq_true, decide_eq_true_eq, decide_eq_true_eq, decide_eq_true_eq]
          rcases hbe with h | ⟨h, h' | ⟨h', _⟩⟩
          · exact .inl (by omega)
          · exact .inr ⟨by omega, h'⟩
          · omega
        rw [this]
        exact ans_bool hk'
      · rw [Bool.or_eq_false_iff, Bool.not_eq_false', Bool.not_eq_false', decide_eq_true_eq, decide_eq_true_eq] at hd
        obtain ⟨hlen, hsum⟩ := hd
        have hlen : X.length = m.length := by omega
        have hle : X = m ∨ ∃ i, i < X.length ∧ (∀ j, j < i → X.getD j default = m.getD j default) ∧ X.getD i default < m.getD i default := by
          rcases hbe with h | ⟨h, h' | ⟨_, h'⟩⟩
          · omega
          · omega
          · exact h'
        have key : ∀ i, i < X.length → (∀ j, j < i → X.getD j default = m.getD j default) → X.getD i default ≤ m.getD i default := by
          intro i hi heq
          rcases hle with rfl | ⟨t, ht, h1, h2⟩
          · exact Int.le_refl _
          · rcases Nat.lt_trichotomy i t with h | h | h
            · rw [h1 i h]; exact Int.le_refl _
            · subst h; omega
            · have := heq t h; omega
        refine Loop.keep [7, 0] Nat (fun i => [(14, .int .i64 i)]) (fun _ => []) [] (fun i => i ≤ X.length ∧ ∀ j, j < i → X.getD j default = m.getD j default) (fun i => X.length - i) ?_ ?_
        · refine ⟨0, ⟨Nat.zero_le _, fun j h => by omega⟩, ?_⟩
          dsimp only [go_sem, Option.bind, Option.map, List.append_nil, Nat.beq, List.cons_append, List.nil_append, List.append_eq, List.map_cons, List.map_nil, ite_self, reduceIte]
          simp only [leS_mk, leL_cons, leL_nil, le_junk, le_int, le_bool, le_nil, leLL_nil, leLL_cons, leH_cons, leH_nil, leH1_box, leH1_own, leH1_gone, le_vs, le_agg, le_tup, le_ptr, le_own, le_xp, le_fn, le_opt, le_val, le_elem, le_nil_own, le_nil_vs, leH_ghost, leL_chunk, leXL_id, bnd_int, bnd_bool, bnd_val, bnd_nil, bnd_junk, bnd_vs, bnd_xp, bnd_agg, bnd_tup, bnd_ptr, bnd_own, bnd_elem, bnd_fn, bnd_iface, bnd_opt, bndL_nil, bndL_cons, lenH_cons, lenH_nil, imp_self, implies_true, true_and, and_true] <;> simp
        · rintro i ⟨hi, heq⟩
          dsimp only [A2_ct7, trueC, enc1, Int.toNat_natCast, go_sem, Option.bind, Option.map, List.append_nil, Nat.beq, List.cons_append, List.nil_append, List.append_eq, List.map_cons, List.map_nil, ite_self, reduceIte]
          simp only [true_and, and_true, imp_self, implies_true, decide_eq_true_eq, decide_eq_false_iff_not, Nat.reduceAdd, Nat.reduceLeDiff, Bool.not_not, reduceCtorEq, false_imp_iff, Bool.not_eq_true', Bool.not_eq_false', Bool.false_eq_true, and_self, forall_const, ne_eq, not_false_eq_true, Nat.reduceEqDiff]
          refine ⟨fun hlt => ?_, fun hge => ans_bool hk'⟩
          have hx := key i (by omega) heq
          refine ⟨⟨by omega, hlt⟩, ⟨by omega, by omega⟩, fun hne => ⟨⟨by omega, hlt⟩, ⟨by omega, by omega⟩, ?_⟩, fun he => ⟨i + 1, ⟨by omega, fun j hj => ?_⟩, by omega, ?_⟩⟩
          · rw [decide_eq_true (by omega)]
            exact ans_bool hk'
          · rcases Nat.lt_or_ge j i with h' | h'
            · exact heq j h'
            · obtain rfl : j = i := by omega
              exact he
          · simp only [w_succ (i := i) (n := X.length) (by omega) (by omega), leS_mk, leL_cons, leL_nil, le_junk, le_int, le_bool, le_nil, leLL_nil, leLL_cons, leH_cons, leH_nil, leH1_box, leH1_own, leH1_gone, le_vs, le_agg, le_tup, le_ptr, le_own, le_xp, le_fn, le_opt, le_val, le_elem, le_nil_own, le_nil_vs, leH_ghost, leL_chunk, leXL_id, bnd_int, bnd_bool, bnd_val, bnd_nil, bnd_junk, bnd_vs, bnd_xp, bnd_agg, bnd_tup, bnd_ptr, bnd_own, bnd_elem, bnd_fn, bnd_iface, bnd_opt, bndL_nil, bndL_cons, lenH_cons, lenH_nil, imp_self, implies_true, true_and, and_true] <;> simp
end Go.Proofs.Ytngccjllkgpjmaa

/- Chests, in plain Lean: the exact area, the exact force; tubes. -/
/- Chests, in plain Lean: the exact area, the exact force; tubes. -/
set_option linter.all false
namespace Go.Proofs.Ytngccjllkgpjmaa
open Go Go.Vx

end Go.Proofs.Ytngccjllkgpjmaa

/- Chests, in plain Lean: numbers of the exact area. -/
/- Chests, in plain Lean: numbers of the exact area. -/
set_option linter.all false
namespace Go.Proofs.Ytngccjllkgpjmaa
open Go Go.Vx

end Go.Proofs.Ytngccjllkgpjmaa

/- Chests, walked: the law of what is true. -/
/- Chests, walked: the law of what is true. -/
set_option linter.all false
namespace Go.Proofs.Ytngccjllkgpjmaa
open Go Go.Vx
set_option maxRecDepth 100000
set_option maxHeartbeats 4000000

end Go.Proofs.Ytngccjllkgpjmaa

/- Laws of chests, as they are given, without a condition. -/
/- Laws of chests, as they are given, without a condition. -/
set_option linter.all false
namespace Go.Proofs.Ytngccjllkgpjmaa
open Go Go.Vx Go.RowKit
set_option maxRecDepth 100000

theorem ownX1 : ownKnob Try.prog.godebug = none := by kernel_rfl
theorem laidX1 : laidOutB Try.prog = true := by kernel_rfl

theorem chestsBest_lifted (os : Os) (started : os.Started) (H : Type) (enc : TypeId × Value → H) :
    ReturnsInHanded {} Try.checked os 4 .any (Rows.chestsBestSpec.pre6 enc Try.prog Try.f4 Rows.chestsBestRow.domain false) (Rows.chestsBestSpec.post enc Try.prog Try.f4 false true false false) :=
  law_lifted (C := Try.checked) (tb := 4) ownX1 started (by kernel_rfl) Try.func4 laidX1
    (ChangeSpec.witness6 (enc := enc) (C := Try.checked) false ⟨#[], #[.agg #[.slice none 0 0, .int .i64 0, .int .i64 0, .int .i64 0, .slice none 0 0, .int .i64 0, .int .i64 0, .int .u16 0], .slice none 0 0], []⟩ 8 (by kernel_rfl) (by kernel_rfl) (by kernel_rfl) (by kernel_rfl))
    (by kernel_rfl) (by kernel_rfl) (by kernel_rfl) (by kernel_rfl) rfl (fun ds h => match ds, h with | [_, _], _ => ⟨rfl, rfl, rfl⟩) lawBest

theorem chestsBest_holds : Rows.ChestsBestSaid :=
  OpenClaim.holds_of_wide 4 Try.f4 rfl rfl rfl rfl rfl rfl rfl ⟨rfl, rfl, rfl, rfl, rfl⟩ rfl rfl rfl rfl rfl (by kernel_rfl) Try.func4 (by kernel_rfl)
    (of_decide_eq_true (by kernel_rfl)) (by unfold Func.isWrapper; first | (rw [if_pos (by decide +kernel)]; kernel_rfl) | (rw [if_neg (by decide +kernel)]; exact ⟨rfl, rfl⟩))
    (fun os started H enc _ => chestsBest_lifted os started H enc)
end Go.Proofs.Ytngccjllkgpjmaa

