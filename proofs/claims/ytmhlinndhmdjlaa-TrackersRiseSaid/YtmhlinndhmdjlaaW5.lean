/- Trackers: Regulate, Coupled. -/
import Derived.Test.YtmhlinndhmdjlaaW4
set_option linter.all false
namespace Go.Proofs.Ytmhlinndhmdjlaa
open Go Go.Vx
set_option maxRecDepth 100000
set_option maxHeartbeats 4000000

def v16 : VF := { ntmps := 37, res := [.tmp 6, .tmp 7], body :=
 (.seq (.region [⟨(some 4), none, .box, [.tm 1]⟩,
  ⟨(some 5), none, .box, [.tm 2]⟩,
  ⟨(some 6), none, .mov, [.cn .nil]⟩,
  ⟨(some 7), none, .mov, [.cn (.int .i64 0)]⟩])
 (.seq (.seq (.region [⟨(some 13), none, .mov, [.tm 0]⟩,
  ⟨(some 14), none, (.load false 1), [.tm 4]⟩,
  ⟨(some 15), none, (.load false 1), [.tm 5]⟩,
  ⟨(some 16), none, (.buildSlice 1 2 [(.int .i64 0)] [(0, 1), (1, 1)]), [.tm 14, .tm 15]⟩,
  ⟨(some 17), none, (.call 38), [.tm 13, .tm 16]⟩,
  ⟨(some 8), none, .mov, [.tm 17]⟩])
 (.seq (.region [⟨(some 18), none, .mov, [.tm 8]⟩,
  ⟨(some 19), none, (.cmp .neq), [.tm 18, .cn (.int .i64 0)]⟩])
 (.cond (.tm 19) (.seq (.region [⟨(some 20), none, .mov, [.tm 8]⟩,
  ⟨(some 6), none, .mov, [.cn .nil]⟩,
  ⟨(some 7), none, .mov, [.tm 20]⟩])
 .ret)
  .skip)))
 (.seq (.region [⟨(some 9), none, .mov, [.cn .nil]⟩])
 (.seq (.seq (.region [⟨(some 21), none, .mov, [.tm 0]⟩,
  ⟨(some 22), none, .len, [.tm 21]⟩,
  ⟨(some 23), none, .mov, [.cn (.int .i64 0)]⟩])
 (.block 0 (.loop (.seq (.region [⟨(some 24), none, (.cmp .lss), [.tm 23, .tm 22]⟩])
 (.seq (.cond (.tm 24) .skip
  (.exit 0))
 (.seq (.block 1 (.seq (.region [⟨(some 25), none, (.idxAddr 3), [.tm 21, .tm 23]⟩,
  ⟨(some 26), none, (.load true 3), [.tm 25]⟩,
  ⟨(some 11), none, (.alloc [.nil, (.int .i64 0), (.int .i64 0)]), []⟩,
  ⟨none, none, (.store 3), [.tm 11, .tm 26]⟩])
 (.seq (.region [⟨(some 27), none, (.mkfn (.func 40) 0), [.tm 11, .tm 4, .tm 5]⟩,
  ⟨(some 28), none, (.call 39), [.cn (.int .i64 101), .tm 27]⟩,
  ⟨(some 12), none, .mov, [.tm 28]⟩])
 (.seq (.seq (.region [⟨(some 29), none, .mov, [.tm 12]⟩,
  ⟨(some 30), none, (.cmp .gtr), [.tm 29, .cn (.int .i64 100)]⟩])
 (.cond (.tm 30) (.seq (.region [⟨(some 6), none, .mov, [.cn .nil]⟩,
  ⟨(some 7), none, .mov, [.cn (.int .i64 7)]⟩])
 .ret)
  .skip))
 (.region [⟨(some 31), none, .mov, [.tm 9]⟩,
  ⟨(some 32), none, .mov, [.tm 12]⟩,
  ⟨(some 33), none, (.buildSlice 1 1 [(.int .i64 0)] [(0, 1)]), [.tm 32]⟩,
  ⟨(some 34), none, (.append 1 8 [(.int .i64 0)]), [.tm 31, .tm 33]⟩,
  ⟨(some 9), none, .mov, [.tm 34]⟩])))))
 (.region [⟨(some 35), none, (.ari .add), [.tm 23, .cn (.int .i64 1)]⟩,
  ⟨(some 23), none, .mov, [.tm 35]⟩])))))))
 (.seq (.region [⟨(some 36), none, .mov, [.tm 9]⟩,
  ⟨(some 6), none, .mov, [.tm 36]⟩,
  ⟨(some 7), none, .mov, [.cn (.int .i64 0)]⟩])
 .ret))))) }
theorem v16_is : vfunc Try.prog Try.f16 = some v16 := by kernel_rfl
def v17 : VF := { ntmps := 57, res := [.tmp 6, .tmp 7], body :=
 (.seq (.region [⟨(some 6), none, .mov, [.cn .nil]⟩,
  ⟨(some 7), none, .mov, [.cn (.int .i64 0)]⟩])
 (.seq (.region [⟨(some 12), none, .mov, [.tm 0]⟩,
  ⟨(some 13), none, (.call 41), [.tm 12]⟩,
  ⟨(some 8), none, .mov, [.tm 13]⟩])
 (.seq (.seq (.region [⟨(some 14), none, .mov, [.tm 8]⟩,
  ⟨(some 15), none, (.cmp .eql), [.tm 14, .cn (.int .i64 0)]⟩,
  ⟨(some 16), none, .mov, [.tm 15]⟩,
  ⟨(some 17), (some (16, true)), .mov, [.tm 1]⟩,
  ⟨(some 18), (some (16, true)), (.call 37), [.tm 17, .cn (.int .i64 0), .cn (.int .i64 50000)]⟩,
  ⟨(some 19), (some (16, true)), .not, [.tm 18]⟩,
  ⟨(some 20), (some (16, true)), .mov, [.tm 19]⟩,
  ⟨(some 21), (some (20, false)), .mov, [.tm 2]⟩,
  ⟨(some 22), (some (20, false)), (.call 37), [.tm 21, .cn (.int .i64 0), .cn (.int .i64 50000)]⟩,
  ⟨(some 23), (some (20, false)), .not, [.tm 22]⟩,
  ⟨(some 24), (some (16, true)), .or, [.tm 20, .tm 23]⟩,
  ⟨(some 25), none, .and, [.tm 16, .tm 24]⟩])
 (.cond (.tm 25) (.region [⟨(some 8), none, .mov, [.cn (.int .i64 2)]⟩])
  .skip))
 (.seq (.seq (.region [⟨(some 26), none, .mov, [.tm 8]⟩,
  ⟨(some 27), none, (.cmp .neq), [.tm 26, .cn (.int .i64 0)]⟩])
 (.cond (.tm 27) (.seq (.region [⟨(some 28), none, .mov, [.tm 8]⟩,
  ⟨(some 6), none, .mov, [.cn .nil]⟩,
  ⟨(some 7), none, .mov, [.tm 28]⟩])
 .ret)
  .skip))
 (.seq (.region [⟨(some 9), none, .mov, [.cn .nil]⟩])
 (.seq (.seq (.region [⟨(some 10), none, .mov, [.cn (.int .i64 0)]⟩])
 (.block 0 (.loop (.seq (.seq (.region [⟨(some 29), none, .mov, [.tm 10]⟩,
  ⟨(some 30), none, .mov, [.tm 0]⟩,
  ⟨(some 31), none, .len, [.tm 30]⟩,
  ⟨(some 32), none, (.cmp .lss), [.tm 29, .tm 31]⟩])
 (.cond (.tm 32) .skip
  (.exit 0)))
 (.seq (.block 1 (.seq (.region [⟨(some 11), none, .mov, [.cn (.int .i64 0)]⟩])
 (.seq (.block 2 (.loop (.seq (.seq (.region [⟨(some 35), none, .mov, [.tm 11]⟩,
  ⟨(some 36), none, (.cmp .leq), [.tm 35, .cn (.int .i64 100)]⟩,
  ⟨(some 37), none, .mov, [.tm 36]⟩,
  ⟨(some 38), (some (37, true)), .mov, [.tm 0]⟩,
  ⟨(some 39), (some (37, true)), .mov, [.tm 10]⟩,
  ⟨(some 40), (some (37, true)), (.idxAddr 3), [.tm 38, .tm 39]⟩,
  ⟨(some 41), (some (37, true)), (.load true 3), [.tm 40]⟩,
  ⟨(some 42), (some (37, true)), .mov, [.tm 11]⟩,
  ⟨(some 43), (some (37, true)), .mov, [.tm 1]⟩,
  ⟨(some 44), (some (37, true)), .mov, [.tm 2]⟩,
  ⟨(some 45), (some (37, true)), (.call 35), [.tm 41, .tm 42, .tm 43, .tm 44]⟩,
  ⟨(some 46), (some (37, true)), .not, [.tm 45]⟩,
  ⟨(some 47), none, .and, [.tm 37, .tm 46]⟩])
 (.cond (.tm 47) .skip
  (.exit 2)))
 (.block 3 (.region [⟨(some 48), none, .mov, [.tm 11]⟩,
  ⟨(some 49), none, (.ari .add), [.tm 48, .cn (.int .i64 1)]⟩,
  ⟨(some 11), none, .mov, [.tm 49]⟩])))))
 (.seq (.seq (.region [⟨(some 50), none, .mov, [.tm 11]⟩,
  ⟨(some 51), none, (.cmp .gtr), [.tm 50, .cn (.int .i64 100)]⟩])
 (.cond (.tm 51) (.seq (.region [⟨(some 6), none, .mov, [.cn .nil]⟩,
  ⟨(some 7), none, .mov, [.cn (.int .i64 7)]⟩])
 .ret)
  .skip))
 (.region [⟨(some 52), none, .mov, [.tm 9]⟩,
  ⟨(some 53), none, .mov, [.tm 11]⟩,
  ⟨(some 54), none, (.buildSlice 1 1 [(.int .i64 0)] [(0, 1)]), [.tm 53]⟩,
  ⟨(some 55), none, (.append 1 8 [(.int .i64 0)]), [.tm 52, .tm 54]⟩,
  ⟨(some 9), none, .mov, [.tm 55]⟩])))))
 (.region [⟨(some 33), none, .mov, [.tm 10]⟩,
  ⟨(some 34), none, (.ari .add), [.tm 33, .cn (.int .i64 1)]⟩,
  ⟨(some 10), none, .mov, [.tm 34]⟩]))))))
 (.seq (.region [⟨(some 56), none, .mov, [.tm 9]⟩,
  ⟨(some 6), none, .mov, [.tm 56]⟩,
  ⟨(some 7), none, .mov, [.cn (.int .i64 0)]⟩])
 .ret))))))) }
theorem v17_is : vfunc Try.prog Try.f17 = some v17 := by kernel_rfl
def v22 : VF := { ntmps := 51, res := [.tmp 4, .cell 5 true 2, .tmp 6], body :=
 (.seq (.region [⟨(some 4), none, .mov, [.cn .nil]⟩,
  ⟨(some 5), none, (.alloc [(.int .i64 0), (.int .i64 0)]), []⟩,
  ⟨(some 6), none, .mov, [.cn (.int .i64 0)]⟩])
 (.seq (.seq (.region [⟨(some 13), none, .mov, [.tm 0]⟩,
  ⟨(some 14), none, .mov, [.tm 1]⟩,
  ⟨(some 15), none, (.buildSlice 1 1 [(.int .i64 0)] [(0, 1)]), [.tm 14]⟩,
  ⟨(some 16), none, (.call 38), [.tm 13, .tm 15]⟩,
  ⟨(some 7), none, .mov, [.tm 16]⟩])
 (.seq (.region [⟨(some 17), none, .mov, [.tm 7]⟩,
  ⟨(some 18), none, (.cmp .neq), [.tm 17, .cn (.int .i64 0)]⟩])
 (.cond (.tm 18) (.seq (.region [⟨(some 19), none, (.build [(.int .i64 0), (.int .i64 0)] []), []⟩,
  ⟨(some 20), none, .mov, [.tm 7]⟩,
  ⟨(some 4), none, .mov, [.cn .nil]⟩,
  ⟨none, none, (.store 2), [.tm 5, .tm 19]⟩,
  ⟨(some 6), none, .mov, [.tm 20]⟩])
 .ret)
  .skip)))
 (.seq (.region [⟨(some 8), none, .mov, [.cn .nil]⟩])
 (.seq (.region [⟨(some 9), none, (.alloc [(.int .i64 0), (.int .i64 0)]), []⟩])
 (.seq (.seq (.region [⟨(some 21), none, .mov, [.tm 0]⟩,
  ⟨(some 22), none, .len, [.tm 21]⟩,
  ⟨(some 23), none, .mov, [.cn (.int .i64 0)]⟩])
 (.block 0 (.loop (.seq (.region [⟨(some 24), none, (.cmp .lss), [.tm 23, .tm 22]⟩])
 (.seq (.cond (.tm 24) .skip
  (.exit 0))
 (.seq (.block 1 (.seq (.region [⟨(some 25), none, (.idxAddr 3), [.tm 21, .tm 23]⟩,
  ⟨(some 26), none, (.load true 3), [.tm 25]⟩,
  ⟨(some 11), none, (.alloc [.nil, (.int .i64 0), (.int .i64 0)]), []⟩,
  ⟨none, none, (.store 3), [.tm 11, .tm 26]⟩])
 (.seq (.region [⟨(some 27), none, (.load true 3), [.tm 11]⟩,
  ⟨(some 28), none, (.call 42), [.tm 27]⟩,
  ⟨(some 29), none, (.call 29), [.tm 28]⟩,
  ⟨(some 12), none, (.alloc [(.int .i64 0), (.int .i64 0)]), []⟩,
  ⟨none, none, (.store 2), [.tm 12, .tm 29]⟩])
 (.seq (.region [⟨(some 30), none, .mov, [.tm 8]⟩,
  ⟨(some 31), none, (.load true 3), [.tm 11]⟩,
  ⟨(some 32), none, .mov, [.tm 1]⟩,
  ⟨(some 33), none, (.call 28), [.tm 31, .cn (.int .i64 0), .tm 32]⟩,
  ⟨(some 34), none, (.call 29), [.tm 33]⟩,
  ⟨(some 35), none, (.buildSlice 2 1 [(.int .i64 0), (.int .i64 0)] [(0, 2)]), [.tm 34]⟩,
  ⟨(some 36), none, (.append 2 16 [(.int .i64 0), (.int .i64 0)]), [.tm 30, .tm 35]⟩,
  ⟨(some 8), none, .mov, [.tm 36]⟩])
 (.region [⟨(some 37), none, (.fieldAddr 0), [.tm 9]⟩,
  ⟨(some 38), none, (.load false 1), [.tm 37]⟩,
  ⟨(some 39), none, (.fieldAddr 0), [.tm 12]⟩,
  ⟨(some 40), none, (.load false 1), [.tm 39]⟩,
  ⟨(some 41), none, (.ari .add), [.tm 38, .tm 40]⟩,
  ⟨(some 42), none, (.fieldAddr 1), [.tm 9]⟩,
  ⟨(some 43), none, (.load false 1), [.tm 42]⟩,
  ⟨(some 44), none, (.fieldAddr 1), [.tm 12]⟩,
  ⟨(some 45), none, (.load false 1), [.tm 44]⟩,
  ⟨(some 46), none, (.ari .add), [.tm 43, .tm 45]⟩,
  ⟨(some 47), none, (.build [(.int .i64 0), (.int .i64 0)] [(0, 1), (1, 1)]), [.tm 41, .tm 46]⟩,
  ⟨none, none, (.store 2), [.tm 9, .tm 47]⟩])))))
 (.region [⟨(some 48), none, (.ari .add), [.tm 23, .cn (.int .i64 1)]⟩,
  ⟨(some 23), none, .mov, [.tm 48]⟩])))))))
 (.seq (.draw [] [⟨⟨(some 49), none, .mov, [.tm 8]⟩, []⟩,
  ⟨⟨(some 50), none, (.load true 2), [.tm 9]⟩, []⟩,
  ⟨⟨(some 4), none, .mov, [.tm 49]⟩, []⟩,
  ⟨⟨none, none, (.store 2), [.tm 5, .tm 50]⟩, []⟩,
  ⟨⟨(some 6), none, .mov, [.cn (.int .i64 0)]⟩, []⟩])
 .ret)))))) }
theorem v22_is : vfunc Try.prog Try.f22 = some v22 := by kernel_rfl
def v23 : VF := { ntmps := 60, res := [.tmp 4, .cell 5 true 2, .tmp 6], body :=
 (.seq (.region [⟨(some 4), none, .mov, [.cn .nil]⟩,
  ⟨(some 5), none, (.alloc [(.int .i64 0), (.int .i64 0)]), []⟩,
  ⟨(some 6), none, .mov, [.cn (.int .i64 0)]⟩])
 (.seq (.region [⟨(some 12), none, .mov, [.tm 0]⟩,
  ⟨(some 13), none, (.call 41), [.tm 12]⟩,
  ⟨(some 7), none, .mov, [.tm 13]⟩])
 (.seq (.seq (.region [⟨(some 14), none, .mov, [.tm 7]⟩,
  ⟨(some 15), none, (.cmp .eql), [.tm 14, .cn (.int .i64 0)]⟩,
  ⟨(some 16), none, .mov, [.tm 15]⟩,
  ⟨(some 17), (some (16, true)), .mov, [.tm 1]⟩,
  ⟨(some 18), (some (16, true)), (.call 37), [.tm 17, .cn (.int .i64 0), .cn (.int .i64 50000)]⟩,
  ⟨(some 19), (some (16, true)), .not, [.tm 18]⟩,
  ⟨(some 20), none, .and, [.tm 16, .tm 19]⟩])
 (.cond (.tm 20) (.region [⟨(some 7), none, .mov, [.cn (.int .i64 2)]⟩])
  .skip))
 (.seq (.seq (.region [⟨(some 21), none, .mov, [.tm 7]⟩,
  ⟨(some 22), none, (.cmp .neq), [.tm 21, .cn (.int .i64 0)]⟩])
 (.cond (.tm 22) (.seq (.region [⟨(some 23), none, (.build [(.int .i64 0), (.int .i64 0)] []), []⟩,
  ⟨(some 24), none, .mov, [.tm 7]⟩,
  ⟨(some 4), none, .mov, [.cn .nil]⟩,
  ⟨none, none, (.store 2), [.tm 5, .tm 23]⟩,
  ⟨(some 6), none, .mov, [.tm 24]⟩])
 .ret)
  .skip))
 (.seq (.region [⟨(some 8), none, .mov, [.cn .nil]⟩])
 (.seq (.region [⟨(some 9), none, (.alloc [(.int .i64 0), (.int .i64 0)]), []⟩])
 (.seq (.seq (.region [⟨(some 10), none, .mov, [.cn (.int .i64 0)]⟩])
 (.block 0 (.loop (.seq (.seq (.region [⟨(some 25), none, .mov, [.tm 10]⟩,
  ⟨(some 26), none, .mov, [.tm 0]⟩,
  ⟨(some 27), none, .len, [.tm 26]⟩,
  ⟨(some 28), none, (.cmp .lss), [.tm 25, .tm 27]⟩])
 (.cond (.tm 28) .skip
  (.exit 0)))
 (.seq (.block 1 (.seq (.region [⟨(some 31), none, .mov, [.tm 8]⟩,
  ⟨(some 32), none, .mov, [.tm 0]⟩,
  ⟨(some 33), none, .mov, [.tm 10]⟩,
  ⟨(some 34), none, (.idxAddr 3), [.tm 32, .tm 33]⟩,
  ⟨(some 35), none, (.load true 3), [.tm 34]⟩,
  ⟨(some 36), none, .mov, [.tm 1]⟩,
  ⟨(some 37), none, (.call 32), [.tm 35, .cn (.int .i64 0), .tm 36]⟩,
  ⟨(some 38), none, (.call 31), [.tm 37]⟩,
  ⟨(some 39), none, (.buildSlice 2 1 [(.int .i64 0), (.int .i64 0)] [(0, 2)]), [.tm 38]⟩,
  ⟨(some 40), none, (.append 2 16 [(.int .i64 0), (.int .i64 0)]), [.tm 31, .tm 39]⟩,
  ⟨(some 8), none, .mov, [.tm 40]⟩])
 (.seq (.region [⟨(some 41), none, .mov, [.tm 0]⟩,
  ⟨(some 42), none, .mov, [.tm 10]⟩,
  ⟨(some 43), none, (.idxAddr 3), [.tm 41, .tm 42]⟩,
  ⟨(some 44), none, (.load true 3), [.tm 43]⟩,
  ⟨(some 45), none, (.call 43), [.tm 44]⟩,
  ⟨(some 46), none, (.call 31), [.tm 45]⟩,
  ⟨(some 11), none, (.alloc [(.int .i64 0), (.int .i64 0)]), []⟩,
  ⟨none, none, (.store 2), [.tm 11, .tm 46]⟩])
 (.region [⟨(some 47), none, (.fieldAddr 0), [.tm 9]⟩,
  ⟨(some 48), none, (.load false 1), [.tm 47]⟩,
  ⟨(some 49), none, (.fieldAddr 0), [.tm 11]⟩,
  ⟨(some 50), none, (.load false 1), [.tm 49]⟩,
  ⟨(some 51), none, (.ari .add), [.tm 48, .tm 50]⟩,
  ⟨(some 52), none, (.fieldAddr 1), [.tm 9]⟩,
  ⟨(some 53), none, (.load false 1), [.tm 52]⟩,
  ⟨(some 54), none, (.fieldAddr 1), [.tm 11]⟩,
  ⟨(some 55), none, (.load false 1), [.tm 54]⟩,
  ⟨(some 56), none, (.ari .add), [.tm 53, .tm 55]⟩,
  ⟨(some 57), none, (.build [(.int .i64 0), (.int .i64 0)] [(0, 1), (1, 1)]), [.tm 51, .tm 56]⟩,
  ⟨none, none, (.store 2), [.tm 9, .tm 57]⟩]))))
 (.region [⟨(some 29), none, .mov, [.tm 10]⟩,
  ⟨(some 30), none, (.ari .add), [.tm 29, .cn (.int .i64 1)]⟩,
  ⟨(some 10), none, .mov, [.tm 30]⟩]))))))
 (.seq (.draw [] [⟨⟨(some 58), none, .mov, [.tm 8]⟩, []⟩,
  ⟨⟨(some 59), none, (.load true 2), [.tm 9]⟩, []⟩,
  ⟨⟨(some 4), none, .mov, [.tm 58]⟩, []⟩,
  ⟨⟨none, none, (.store 2), [.tm 5, .tm 59]⟩, []⟩,
  ⟨⟨(some 6), none, .mov, [.cn (.int .i64 0)]⟩, []⟩])
 .ret)))))))) }
theorem v23_is : vfunc Try.prog Try.f23 = some v23 := by kernel_rfl
def v39 : VF := { ntmps := 26, res := [.tmp 4], body :=
 (.seq (.region [⟨(some 4), none, .mov, [.cn (.int .i64 0)]⟩])
 (.seq (.region [⟨(some 8), none, .mov, [.tm 0]⟩,
  ⟨(some 5), none, .mov, [.cn (.int .i64 0)]⟩,
  ⟨(some 6), none, .mov, [.tm 8]⟩])
 (.seq (.block 0 (.loop (.seq (.seq (.region [⟨(some 9), none, .mov, [.tm 5]⟩,
  ⟨(some 10), none, .mov, [.tm 6]⟩,
  ⟨(some 11), none, (.cmp .lss), [.tm 9, .tm 10]⟩])
 (.cond (.tm 11) .skip
  (.exit 0)))
 (.block 1 (.seq (.region [⟨(some 12), none, .mov, [.tm 5]⟩,
  ⟨(some 13), none, .mov, [.tm 6]⟩,
  ⟨(some 14), none, (.ari .add), [.tm 12, .tm 13]⟩,
  ⟨(some 15), none, (.conv .u64), [.tm 14]⟩,
  ⟨(some 16), none, .shr, [.tm 15, .cn (.int .u64 1)]⟩,
  ⟨(some 17), none, (.conv .i64), [.tm 16]⟩,
  ⟨(some 7), none, .mov, [.tm 17]⟩])
 (.seq (.region [⟨(some 18), none, .mov, [.tm 1]⟩,
  ⟨(some 19), none, .mov, [.tm 7]⟩,
  ⟨(some 20), none, .callv, [.tm 18, .tm 19]⟩,
  ⟨(some 21), none, .not, [.tm 20]⟩])
 (.cond (.tm 21) (.region [⟨(some 22), none, .mov, [.tm 7]⟩,
  ⟨(some 23), none, (.ari .add), [.tm 22, .cn (.int .i64 1)]⟩,
  ⟨(some 5), none, .mov, [.tm 23]⟩])
  (.region [⟨(some 24), none, .mov, [.tm 7]⟩,
  ⟨(some 6), none, .mov, [.tm 24]⟩]))))))))
 (.seq (.region [⟨(some 25), none, .mov, [.tm 5]⟩,
  ⟨(some 4), none, .mov, [.tm 25]⟩])
 .ret)))) }
theorem v39_is : vfunc Try.prog Try.f39 = some v39 := by kernel_rfl
def v40 : VF := { ntmps := 14, res := [.tmp 5], body :=
 (.seq (.region [⟨(some 5), none, .mov, [.cn (.bool false)]⟩])
 (.seq (.draw [] [⟨⟨(some 6), none, (.load true 3), [.tm 1]⟩, []⟩,
  ⟨⟨(some 7), none, .mov, [.tm 0]⟩, []⟩,
  ⟨⟨(some 8), none, (.load false 1), [.tm 2]⟩, []⟩,
  ⟨⟨(some 12), none, (.load false 1), [.tm 3]⟩, []⟩,
  ⟨⟨(some 9), none, (.call 28), [.tm 6, .tm 7, .tm 8]⟩, []⟩,
  ⟨⟨(some 10), none, (.call 29), [.tm 9]⟩, []⟩,
  ⟨⟨(some 11), none, (.field false 0 1), [.tm 10]⟩, []⟩,
  ⟨⟨(some 13), none, (.cmp .geq), [.tm 11, .tm 12]⟩, []⟩,
  ⟨⟨(some 5), none, .mov, [.tm 13]⟩, []⟩])
 .ret)) }
theorem v40_is : vfunc Try.prog Try.f40 = some v40 := by kernel_rfl


def G1 : Env := { ct := fun n => match n with | 38 => some whoC | 41 => some rwhoC | 37 => some inC | 28 => some travC | 29 => some ivC | 32 => some travC | 31 => some rivC | 35 => some enoC | 42 => some touC | 43 => some touC | _ => none, fn := fun n => match n with | 39 => some v39 | 40 => some v40 | _ => none, meth := fun _ _ => none }
theorem G1_ct38 : G1.ct 38 = some whoC := rfl
theorem G1_ct41 : G1.ct 41 = some rwhoC := rfl
theorem G1_ct37 : G1.ct 37 = some inC := rfl
theorem G1_ct28 : G1.ct 28 = some travC := rfl
theorem G1_ct29 : G1.ct 29 = some ivC := rfl
theorem G1_ct32 : G1.ct 32 = some travC := rfl
theorem G1_ct31 : G1.ct 31 = some rivC := rfl
theorem G1_ct35 : G1.ct 35 = some enoC := rfl
theorem G1_ct42 : G1.ct 42 = some touC := rfl
theorem G1_ct43 : G1.ct 43 = some touC := rfl
theorem G1_ct39 : G1.ct 39 = none := rfl
theorem G1_fn39 : G1.fn 39 = some v39 := rfl
theorem G1_ct40 : G1.ct 40 = none := rfl
theorem G1_fn40 : G1.fn 40 = some v40 := rfl
theorem G1_ok : EnvOk Try.prog G1 := by
  refine ⟨fun f c h => ?_, fun f vf h => ?_, fun _ _ => rfl, by kernel_rfl⟩
  · simp only [G1] at h
    split at h
    · cases h; exact ⟨who38, Try.f38, Try.func38, by kernel_rfl, by kernel_rfl⟩
    · cases h; exact ⟨who41, Try.f41, Try.func41, by kernel_rfl, by kernel_rfl⟩
    · cases h; exact ⟨in37, Try.f37, Try.func37, by kernel_rfl, by kernel_rfl⟩
    · cases h; exact ⟨trav28, Try.f28, Try.func28, by kernel_rfl, by kernel_rfl⟩
    · cases h; exact ⟨iv29, Try.f29, Try.func29, by kernel_rfl, by kernel_rfl⟩
    · cases h; exact ⟨trav32, Try.f32, Try.func32, by kernel_rfl, by kernel_rfl⟩
    · cases h; exact ⟨riv31, Try.f31, Try.func31, by kernel_rfl, by kernel_rfl⟩
    · cases h; exact ⟨eno35, Try.f35, Try.func35, by kernel_rfl, by kernel_rfl⟩
    · cases h; exact ⟨tou42, Try.f42, Try.func42, by kernel_rfl, by kernel_rfl⟩
    · cases h; exact ⟨tou43, Try.f43, Try.func43, by kernel_rfl, by kernel_rfl⟩
    · cases h
  · simp only [G1] at h
    split at h
    · cases h; exact ⟨Try.f39, Try.func39, v39_is, Try.f39, Try.func39, by kernel_rfl, by kernel_rfl⟩
    · cases h; exact ⟨Try.f40, Try.func40, v40_is, Try.f40, Try.func40, by kernel_rfl, by kernel_rfl⟩
    · cases h


def regC : Ctr := { alias := false, of := fun a => match a with
  | [.vs _ _ n sz get, .int .i64 key, .int .i64 opn] => .ex (List Chain) fun l => .pre (lsP 3 encC n sz get l) (.fin (.tup [.vs true (decide ((regF l key opn).1.length = 0)) (regF l key opn).1.length 1 (fun k => enc1 ((regF l key opn).1.getD k default)), .int .i64 (regF l key opn).2]) [])
  | _ => noC }

theorem mid {i j : Nat} (hi : i ≤ 101) (hj : j ≤ 101) : IntKind.i64.wrap ((IntKind.u64.wrap (IntKind.i64.wrap ((i : Int) + (j : Int)))).fdiv (2 ^ min (1 : Int).toNat IntKind.u64.bits)) = (((i + j) / 2 : Nat) : Int) := by
  have e1 : IntKind.i64.wrap ((i : Int) + (j : Int)) = (i : Int) + j := IntWalk.i64_in _ (by omega)
  have e2 : IntKind.u64.wrap ((i : Int) + (j : Int)) = (i : Int) + j := IntWalk.u64_in _ (by omega)
  have e3 : (2 : Int) ^ min (1 : Int).toNat IntKind.u64.bits = 2 := by decide
  rw [e1, e2, e3, Int.fdiv_eq_ediv_of_nonneg _ (by omega), IntWalk.i64_in _ (by omega)]
  omega

theorem Reg16 : regC.ok Try.prog 16 := by
  refine contract Try.func16 v16_is G1_ok 800 regC fun args k h => ?_
  simp only [regC] at h
  split at h
  · rename_i tt z n sz get key opn
    obtain ⟨l, ⟨rfl, rfl, hg⟩, h⟩ := h
    refine ⟨[.vs tt z l.length 3 (fun k => encC (l.getD k default)), .int .i64 key, .int .i64 opn], by simpa [leL, le] using hg, ?_⟩
    dsimp only [v16, G1_ct38, whoC, encC, enc, r_end, r_end1, r_nil, r_op, r_opg, r_runOp, r_op0, r_yld0, r_yld1, r_y, r_rbeg, r_rend, r_rend1, r_rfrm, r_rfrm1, r_range, r_rangeK, r_rangeE, r_draw, r_dnil, r_dop, r_dopg, r_dplq, r_dplh, r_dq, r_dq0, r_dcl1, r_dcl0, r_dct1, r_dct0, r_dgd, r_dgq1, r_dgq0, r_dctG, r_op1, r_eff, r_eff0, r_call, r_call0, r_inl, r_g, r_gq, r_gc, r_effg, r_effg0, r_callg, r_callg0, r_fin, r_pre, r_imp, r_all, r_ex, r_fing, r_preg, r_exg, r_inBlock, r_inLoop, r_frame, r_frame1, r_skip, r_region, r_seq, r_cond, r_cond1, r_block, r_exit, r_exit1, r_exit2, r_ret, r_loop, s_args0, s_args1, s_xt, s_xc, padL, blankL, callee, callArgs, eff, ctOf, getL, setL, S.put, S.upd, unopts, unopt, unoptsO, unoptsB, lazyO, guardOf, gbool, eMov, eNot, eNeg, eConv, eExt, eLenArr, eLen, eLenStr, eEqb, eEqv, allEq, eNil, negIf, eBool2, eCmp, eAri, ari, eBit, eDiv, eSh, eMinMax, foldMin, foldMax, kEq, pure1, cmpB, VO.quiet, resVals, resVal, tupled, popRet, popTo, cond, Option.bind, Option.map, eNew, eBox, asCells, lenH, snocH, eFieldAddr, eField, eLoad, cellsAt, getH, setH, dropL, takeL, mkAgg, lenL, lenS, shift, shiftL, shiftH, viewN, viewL, view, andT, junks, List.append_nil, Nat.beq, eIdxAddr, eIdxArr, eIndex, eStore, storeAt, spliceL, ones, one, eSlice, eSliceArr, bounds, subLo, addLo, eMake, eAppend, readS, repL, buildCells, chunk, purgeL, purgeLL, purgeH, purge, refs, refsL, List.cons_append, List.nil_append, wrOps, wrAl, wrDops, wrC, junkAt, putAll, putHs, headOf, headK, keepG, List.append_eq, headX, chkP, apartP, apartB, blk, strip, runAl, yld, putPs, lenN, findR, notRound, jumpK, jumpPT, jcode, List.map_cons, List.map_nil, ite_self, reduceIte]
    simp only [true_and, and_true, imp_self, implies_true, decide_eq_true_eq, decide_eq_false_iff_not, Nat.reduceAdd, Nat.reduceLeDiff, Bool.not_not, reduceCtorEq, false_imp_iff, Bool.not_eq_true', Bool.not_eq_false', Bool.false_eq_true, and_self, forall_const, ne_eq, not_false_eq_true, Nat.reduceEqDiff]
    refine ⟨by decide, l, ⟨rfl, rfl, fun k _ => leXL_self _⟩, [key, opn], ⟨⟨rfl, rfl, fun k hk => ?_⟩, by simp⟩, fun he => ?_, fun he => ?_⟩
    · match k, hk with
      | 0, _ => exact leXL_self _
      | 1, _ => exact leXL_self _
    · have hr : regF l key opn = ([], wholeF l [key, opn]) := by rw [regF, if_pos he]
      rw [hr] at h
      refine ans_le (show k _ [] from h) ?_ ?_
      · simp [expo, view, viewL, le, leL]
      · simp [freshS, freshL]
    obtain ⟨h16, hall, hns⟩ := wholeF_ok he
    have hk := hns key (by simp)
    have ho := hns opn (by simp)
    refine Loop.keep [4, 0, 0, 0, 1, 11, 0, 0] Nat (fun i => [(9, .own 3 0 i 1), (23, .int .i64 i)]) (fun i => [(3, .own (decide (i = 0)) 1 i (fun k => enc1 (turnsF (l.getD k default) key opn)))]) [.gone]
      (fun i => i ≤ l.length ∧ ∀ j, j < i → turnsF (l.getD j default) key opn ≤ 100) (fun i => l.length - i) ?_ ?_
    · refine ⟨0, ⟨Nat.zero_le _, fun j h => by omega⟩, ?_⟩
      dsimp only [r_end, r_end1, r_nil, r_op, r_opg, r_runOp, r_op0, r_yld0, r_yld1, r_y, r_rbeg, r_rend, r_rend1, r_rfrm, r_rfrm1, r_range, r_rangeK, r_rangeE, r_draw, r_dnil, r_dop, r_dopg, r_dplq, r_dplh, r_dq, r_dq0, r_dcl1, r_dcl0, r_dct1, r_dct0, r_dgd, r_dgq1, r_dgq0, r_dctG, r_op1, r_eff, r_eff0, r_call, r_call0, r_inl, r_g, r_gq, r_gc, r_effg, r_effg0, r_callg, r_callg0, r_fin, r_pre, r_imp, r_all, r_ex, r_fing, r_preg, r_exg, r_inBlock, r_inLoop, r_frame, r_frame1, r_skip, r_region, r_seq, r_cond, r_cond1, r_block, r_exit, r_exit1, r_exit2, r_ret, r_loop, s_args0, s_args1, s_xt, s_xc, padL, blankL, callee, callArgs, eff, ctOf, getL, setL, S.put, S.upd, unopts, unopt, unoptsO, unoptsB, lazyO, guardOf, gbool, eMov, eNot, eNeg, eConv, eExt, eLenArr, eLen, eLenStr, eEqb, eEqv, allEq, eNil, negIf, eBool2, eCmp, eAri, ari, eBit, eDiv, eSh, eMinMax, foldMin, foldMax, kEq, pure1, cmpB, VO.quiet, resVals, resVal, tupled, popRet, popTo, cond, Option.bind, Option.map, eNew, eBox, asCells, lenH, snocH, eFieldAddr, eField, eLoad, cellsAt, getH, setH, dropL, takeL, mkAgg, lenL, lenS, shift, shiftL, shiftH, viewN, viewL, view, andT, junks, List.append_nil, Nat.beq, eIdxAddr, eIdxArr, eIndex, eStore, storeAt, spliceL, ones, one, eSlice, eSliceArr, bounds, subLo, addLo, eMake, eAppend, readS, repL, buildCells, chunk, purgeL, purgeLL, purgeH, purge, refs, refsL, List.cons_append, List.nil_append, wrOps, wrAl, wrDops, wrC, junkAt, putAll, putHs, headOf, headK, keepG, List.append_eq, headX, chkP, apartP, apartB, blk, strip, runAl, yld, putPs, lenN, findR, notRound, jumpK, jumpPT, jcode, List.map_cons, List.map_nil, ite_self, reduceIte]
      simp only [leS_mk, leL_cons, leL_nil, le_junk, le_int, le_bool, le_nil, leLL_nil, leLL_cons, leH_cons, leH_nil, leH1_box, leH1_own, leH1_gone, le_vs, le_agg, le_tup, le_ptr, le_own, le_xp, le_fn, le_opt, le_val, le_elem, le_nil_own, le_nil_vs, leH_ghost, leL_chunk, leXL_id, bnd_int, bnd_bool, bnd_val, bnd_nil, bnd_junk, bnd_vs, bnd_xp, bnd_agg, bnd_tup, bnd_ptr, bnd_own, bnd_elem, bnd_fn, bnd_iface, bnd_opt, bndL_nil, bndL_cons, lenH_cons, lenH_nil, imp_self, implies_true, true_and, and_true]
      simp
    · rintro i ⟨hi, hle⟩
      dsimp only [G1_ct39, G1_fn39, v39, G1_ct40, G1_fn40, v40, encC, enc, enc1, Int.toNat_natCast, r_end, r_end1, r_nil, r_op, r_opg, r_runOp, r_op0, r_yld0, r_yld1, r_y, r_rbeg, r_rend, r_rend1, r_rfrm, r_rfrm1, r_range, r_rangeK, r_rangeE, r_draw, r_dnil, r_dop, r_dopg, r_dplq, r_dplh, r_dq, r_dq0, r_dcl1, r_dcl0, r_dct1, r_dct0, r_dgd, r_dgq1, r_dgq0, r_dctG, r_op1, r_eff, r_eff0, r_call, r_call0, r_inl, r_g, r_gq, r_gc, r_effg, r_effg0, r_callg, r_callg0, r_fin, r_pre, r_imp, r_all, r_ex, r_fing, r_preg, r_exg, r_inBlock, r_inLoop, r_frame, r_frame1, r_skip, r_region, r_seq, r_cond, r_cond1, r_block, r_exit, r_exit1, r_exit2, r_ret, r_loop, s_args0, s_args1, s_xt, s_xc, padL, blankL, callee, callArgs, eff, ctOf, getL, setL, S.put, S.upd, unopts, unopt, unoptsO, unoptsB, lazyO, guardOf, gbool, eMov, eNot, eNeg, eConv, eExt, eLenArr, eLen, eLenStr, eEqb, eEqv, allEq, eNil, negIf, eBool2, eCmp, eAri, ari, eBit, eDiv, eSh, eMinMax, foldMin, foldMax, kEq, pure1, cmpB, VO.quiet, resVals, resVal, tupled, popRet, popTo, cond, Option.bind, Option.map, eNew, eBox, asCells, lenH, snocH, eFieldAddr, eField, eLoad, cellsAt, getH, setH, dropL, takeL, mkAgg, lenL, lenS, shift, shiftL, shiftH, viewN, viewL, view, andT, junks, List.append_nil, Nat.beq, eIdxAddr, eIdxArr, eIndex, eStore, storeAt, spliceL, ones, one, eSlice, eSliceArr, bounds, subLo, addLo, eMake, eAppend, readS, repL, buildCells, chunk, purgeL, purgeLL, purgeH, purge, refs, refsL, List.cons_append, List.nil_append, wrOps, wrAl, wrDops, wrC, junkAt, putAll, putHs, headOf, headK, keepG, List.append_eq, headX, chkP, apartP, apartB, blk, strip, runAl, yld, putPs, lenN, findR, notRound, jumpK, jumpPT, jcode, List.map_cons, List.map_nil, ite_self, reduceIte]
      simp only [true_and, and_true, imp_self, implies_true, decide_eq_true_eq, decide_eq_false_iff_not, Nat.reduceAdd, Nat.reduceLeDiff, Bool.not_not, reduceCtorEq, false_imp_iff, Bool.not_eq_true', Bool.not_eq_false', Bool.false_eq_true, and_self, forall_const, ne_eq, not_false_eq_true, Nat.reduceEqDiff]
      refine ⟨fun hlt => ?_, fun hge => ?_⟩
      · have hil : i < l.length := by omega
        have hc : chkF (l.getD i default) = 0 := hall _ (getD_mem hil)
        refine ⟨⟨by omega, hlt⟩, ?_⟩
        refine Loop.keep [1, 3, 0] (Nat × Nat) (fun x => [(5, .int .i64 x.1), (6, .int .i64 x.2)]) (fun _ => []) [] (fun x => x.1 ≤ x.2 ∧ x.2 ≤ 101 ∧ (∀ j, j < x.1 → enoughF (l.getD i default).parts (l.getD i default).turn j key opn = false) ∧ (x.2 < 101 → enoughF (l.getD i default).parts (l.getD i default).turn x.2 key opn = true)) (fun x => x.2 - x.1) ?_ ?_
        · refine ⟨(0, 101), ⟨by simp, by simp, fun j h => by simp at h, fun h => by simp at h⟩, ?_⟩
          dsimp only [r_end, r_end1, r_nil, r_op, r_opg, r_runOp, r_op0, r_yld0, r_yld1, r_y, r_rbeg, r_rend, r_rend1, r_rfrm, r_rfrm1, r_range, r_rangeK, r_rangeE, r_draw, r_dnil, r_dop, r_dopg, r_dplq, r_dplh, r_dq, r_dq0, r_dcl1, r_dcl0, r_dct1, r_dct0, r_dgd, r_dgq1, r_dgq0, r_dctG, r_op1, r_eff, r_eff0, r_call, r_call0, r_inl, r_g, r_gq, r_gc, r_effg, r_effg0, r_callg, r_callg0, r_fin, r_pre, r_imp, r_all, r_ex, r_fing, r_preg, r_exg, r_inBlock, r_inLoop, r_frame, r_frame1, r_skip, r_region, r_seq, r_cond, r_cond1, r_block, r_exit, r_exit1, r_exit2, r_ret, r_loop, s_args0, s_args1, s_xt, s_xc, padL, blankL, callee, callArgs, eff, ctOf, getL, setL, S.put, S.upd, unopts, unopt, unoptsO, unoptsB, lazyO, guardOf, gbool, eMov, eNot, eNeg, eConv, eExt, eLenArr, eLen, eLenStr, eEqb, eEqv, allEq, eNil, negIf, eBool2, eCmp, eAri, ari, eBit, eDiv, eSh, eMinMax, foldMin, foldMax, kEq, pure1, cmpB, VO.quiet, resVals, resVal, tupled, popRet, popTo, cond, Option.bind, Option.map, eNew, eBox, asCells, lenH, snocH, eFieldAddr, eField, eLoad, cellsAt, getH, setH, dropL, takeL, mkAgg, lenL, lenS, shift, shiftL, shiftH, viewN, viewL, view, andT, junks, List.append_nil, Nat.beq, eIdxAddr, eIdxArr, eIndex, eStore, storeAt, spliceL, ones, one, eSlice, eSliceArr, bounds, subLo, addLo, eMake, eAppend, readS, repL, buildCells, chunk, purgeL, purgeLL, purgeH, purge, refs, refsL, List.cons_append, List.nil_append, wrOps, wrAl, wrDops, wrC, junkAt, putAll, putHs, headOf, headK, keepG, List.append_eq, headX, chkP, apartP, apartB, blk, strip, runAl, yld, putPs, lenN, findR, notRound, jumpK, jumpPT, jcode, List.map_cons, List.map_nil, ite_self, reduceIte]
          simp only [leS_mk, leL_cons, leL_nil, le_junk, le_int, le_bool, le_nil, leLL_nil, leLL_cons, leH_cons, leH_nil, leH1_box, leH1_own, leH1_gone, le_vs, le_agg, le_tup, le_ptr, le_own, le_xp, le_fn, le_opt, le_val, le_elem, le_nil_own, le_nil_vs, leH_ghost, leL_chunk, leXL_id, bnd_int, bnd_bool, bnd_val, bnd_nil, bnd_junk, bnd_vs, bnd_xp, bnd_agg, bnd_tup, bnd_ptr, bnd_own, bnd_elem, bnd_fn, bnd_iface, bnd_opt, bndL_nil, bndL_cons, lenH_cons, lenH_nil, imp_self, implies_true, true_and, and_true]
          simp
        · rintro ⟨a, b⟩ ⟨hab, hb, hlo, hhi⟩
          dsimp only [G1_ct40, G1_fn40, v40, G1_ct28, travC, G1_ct29, ivC, encC, enc, encQ, enc1, Int.toNat_natCast, r_end, r_end1, r_nil, r_op, r_opg, r_runOp, r_op0, r_yld0, r_yld1, r_y, r_rbeg, r_rend, r_rend1, r_rfrm, r_rfrm1, r_range, r_rangeK, r_rangeE, r_draw, r_dnil, r_dop, r_dopg, r_dplq, r_dplh, r_dq, r_dq0, r_dcl1, r_dcl0, r_dct1, r_dct0, r_dgd, r_dgq1, r_dgq0, r_dctG, r_op1, r_eff, r_eff0, r_call, r_call0, r_inl, r_g, r_gq, r_gc, r_effg, r_effg0, r_callg, r_callg0, r_fin, r_pre, r_imp, r_all, r_ex, r_fing, r_preg, r_exg, r_inBlock, r_inLoop, r_frame, r_frame1, r_skip, r_region, r_seq, r_cond, r_cond1, r_block, r_exit, r_exit1, r_exit2, r_ret, r_loop, s_args0, s_args1, s_xt, s_xc, padL, blankL, callee, callArgs, eff, ctOf, getL, setL, S.put, S.upd, unopts, unopt, unoptsO, unoptsB, lazyO, guardOf, gbool, eMov, eNot, eNeg, eConv, eExt, eLenArr, eLen, eLenStr, eEqb, eEqv, allEq, eNil, negIf, eBool2, eCmp, eAri, ari, eBit, eDiv, eSh, eMinMax, foldMin, foldMax, kEq, pure1, cmpB, VO.quiet, resVals, resVal, tupled, popRet, popTo, cond, Option.bind, Option.map, eNew, eBox, asCells, lenH, snocH, eFieldAddr, eField, eLoad, cellsAt, getH, setH, dropL, takeL, mkAgg, lenL, lenS, shift, shiftL, shiftH, viewN, viewL, view, andT, junks, List.append_nil, Nat.beq, eIdxAddr, eIdxArr, eIndex, eStore, storeAt, spliceL, ones, one, eSlice, eSliceArr, bounds, subLo, addLo, eMake, eAppend, readS, repL, buildCells, chunk, purgeL, purgeLL, purgeH, purge, refs, refsL, List.cons_append, List.nil_append, wrOps, wrAl, wrDops, wrC, junkAt, putAll, putHs, headOf, headK, keepG, List.append_eq, headX, chkP, apartP, apartB, blk, strip, runAl, yld, putPs, lenN, findR, notRound, jumpK, jumpPT, jcode, List.map_cons, List.map_nil, ite_self, reduceIte]
          simp only [true_and, and_true, imp_self, implies_true, decide_eq_true_eq, decide_eq_false_iff_not, Nat.reduceAdd, Nat.reduceLeDiff, Bool.not_not, reduceCtorEq, false_imp_iff, Bool.not_eq_true', Bool.not_eq_false', Bool.false_eq_true, and_self, forall_const, ne_eq, not_false_eq_true, Nat.reduceEqDiff]
          simp only at hab hb hlo hhi
          have hm := mid (i := a) (j := b) (by omega) (by omega)
          simp only [hm]
          refine ⟨fun hlt => ?_, fun hge => ?_⟩
          · have hmid : a ≤ (a + b) / 2 ∧ (a + b) / 2 < b := by omega
            generalize (a + b) / 2 = c at hmid
            obtain ⟨d1, d2⟩ := chk_ivn (turns := (c : Int)) hc ⟨by omega, by omega⟩ hk
            have hlo' := lo_iff (turns := (c : Int)) (key := key) (opn := opn) hc ⟨by omega, by omega⟩ ⟨by omega, by omega⟩ ho
            refine ⟨by decide, (l.getD i default).parts, ⟨⟨rfl, fun _ _ => rfl⟩, d2⟩, d1, fun hno => ?_, fun hyes => ?_⟩
            · have hf : enoughF (l.getD i default).parts (l.getD i default).turn c key opn = false := by
                rw [Bool.eq_false_iff]; intro ht; exact hno (hlo'.2 ht)
              refine ⟨(c + 1, b), ⟨by simp only; omega, hb, fun j hj => ?_, hhi⟩, by simp only; omega, ?_⟩
              · cases hj2 : enoughF (l.getD i default).parts (l.getD i default).turn j key opn with
                | false => rfl
                | true =>
                  simp only at hj
                  have := enough_mono (u := (j : Int)) (v := (c : Int)) hc (by omega) (by omega) (by omega) ⟨hk.1, by omega⟩ ho hj2
                  rw [hf] at this; cases this
              · have hw := w_succ (i := c) (n := 101) (by omega) (by omega)
                simp only [hw, leS_mk, leL_cons, leL_nil, le_junk, le_int, le_bool, le_nil, leLL_nil, leLL_cons, leH_cons, leH_nil, leH1_box, leH1_own, leH1_gone, le_vs, le_agg, le_tup, le_ptr, le_own, le_xp, le_fn, le_opt, le_val, le_elem, le_nil_own, le_nil_vs, leH_ghost, leL_chunk, leXL_id, bnd_int, bnd_bool, bnd_val, bnd_nil, bnd_junk, bnd_vs, bnd_xp, bnd_agg, bnd_tup, bnd_ptr, bnd_own, bnd_elem, bnd_fn, bnd_iface, bnd_opt, bndL_nil, bndL_cons, lenH_cons, lenH_nil, imp_self, implies_true, true_and, and_true]
                simp
            · have hf : enoughF (l.getD i default).parts (l.getD i default).turn c key opn = true := hlo'.1 hyes
              refine ⟨(a, c), ⟨hmid.1, by simp only; omega, hlo, fun _ => hf⟩, by simp only; omega, ?_⟩
              simp only [leS_mk, leL_cons, leL_nil, le_junk, le_int, le_bool, le_nil, leLL_nil, leLL_cons, leH_cons, leH_nil, leH1_box, leH1_own, leH1_gone, le_vs, le_agg, le_tup, le_ptr, le_own, le_xp, le_fn, le_opt, le_val, le_elem, le_nil_own, le_nil_vs, leH_ghost, leL_chunk, leXL_id, bnd_int, bnd_bool, bnd_val, bnd_nil, bnd_junk, bnd_vs, bnd_xp, bnd_agg, bnd_tup, bnd_ptr, bnd_own, bnd_elem, bnd_fn, bnd_iface, bnd_opt, bndL_nil, bndL_cons, lenH_cons, lenH_nil, imp_self, implies_true, true_and, and_true]
              simp
          · have hea : a = turnsF (l.getD i default) key opn := (leastF_eq (fun j hj => hlo j hj) (by omega) (fun ha => by have := hhi (by omega); rwa [show b = a by omega] at this)).symm
            dsimp only [r_end, r_end1, r_nil, r_op, r_opg, r_runOp, r_op0, r_yld0, r_yld1, r_y, r_rbeg, r_rend, r_rend1, r_rfrm, r_rfrm1, r_range, r_rangeK, r_rangeE, r_draw, r_dnil, r_dop, r_dopg, r_dplq, r_dplh, r_dq, r_dq0, r_dcl1, r_dcl0, r_dct1, r_dct0, r_dgd, r_dgq1, r_dgq0, r_dctG, r_op1, r_eff, r_eff0, r_call, r_call0, r_inl, r_g, r_gq, r_gc, r_effg, r_effg0, r_callg, r_callg0, r_fin, r_pre, r_imp, r_all, r_ex, r_fing, r_preg, r_exg, r_inBlock, r_inLoop, r_frame, r_frame1, r_skip, r_region, r_seq, r_cond, r_cond1, r_block, r_exit, r_exit1, r_exit2, r_ret, r_loop, s_args0, s_args1, s_xt, s_xc, padL, blankL, callee, callArgs, eff, ctOf, getL, setL, S.put, S.upd, unopts, unopt, unoptsO, unoptsB, lazyO, guardOf, gbool, eMov, eNot, eNeg, eConv, eExt, eLenArr, eLen, eLenStr, eEqb, eEqv, allEq, eNil, negIf, eBool2, eCmp, eAri, ari, eBit, eDiv, eSh, eMinMax, foldMin, foldMax, kEq, pure1, cmpB, VO.quiet, resVals, resVal, tupled, popRet, popTo, cond, Option.bind, Option.map, eNew, eBox, asCells, lenH, snocH, eFieldAddr, eField, eLoad, cellsAt, getH, setH, dropL, takeL, mkAgg, lenL, lenS, shift, shiftL, shiftH, viewN, viewL, view, andT, junks, List.append_nil, Nat.beq, eIdxAddr, eIdxArr, eIndex, eStore, storeAt, spliceL, ones, one, eSlice, eSliceArr, bounds, subLo, addLo, eMake, eAppend, readS, repL, buildCells, chunk, purgeL, purgeLL, purgeH, purge, refs, refsL, List.cons_append, List.nil_append, wrOps, wrAl, wrDops, wrC, junkAt, putAll, putHs, headOf, headK, keepG, List.append_eq, headX, chkP, apartP, apartB, blk, strip, runAl, yld, putPs, lenN, findR, notRound, jumpK, jumpPT, jcode, List.map_cons, List.map_nil, ite_self, reduceIte]
            simp only [true_and, and_true, imp_self, implies_true, decide_eq_true_eq, decide_eq_false_iff_not, Nat.reduceAdd, Nat.reduceLeDiff, Bool.not_not, reduceCtorEq, false_imp_iff, Bool.not_eq_true', Bool.not_eq_false', Bool.false_eq_true, and_self, forall_const, ne_eq, not_false_eq_true, Nat.reduceEqDiff]
            refine ⟨fun hbig => ?_, fun hsm => ?_⟩
            · have hr : regF l key opn = ([], 7) := by
                rw [regF, if_neg (by rw [he]; simp), if_neg]
                intro hall2
                have := List.all_eq_true.1 hall2 _ (getD_mem hil)
                simp only [decide_eq_true_eq] at this
                omega
              rw [hr] at h
              refine ans_le (show k _ [] from h) ?_ ?_
              · simp [expo, view, viewL, le, leL]
              · simp [freshS, freshL]
            · refine ⟨by decide, ⟨by simp only [capOk]; omega, fun k hk => ?_⟩, i + 1, ⟨by omega, fun j hj => ?_⟩, by omega, ?_⟩
              · match k, hk with
                | 0, _ => exact ⟨rfl, trivial, trivial⟩
              · rcases Nat.lt_or_ge j i with h' | h'
                · exact hle j h'
                · obtain rfl : j = i := by omega
                  omega
              · have hw := w_succ (i := i) (n := l.length) (by omega) (by omega)
                simp only [hw, leS_mk, leL_cons, leL_nil, le_junk, le_int, le_bool, le_nil, leLL_nil, leLL_cons, leH_cons, leH_nil, leH1_box, leH1_own, leH1_gone, le_vs, le_agg, le_tup, le_ptr, le_own, le_xp, le_fn, le_opt, le_val, le_elem, le_nil_own, le_nil_vs, leH_ghost, leL_chunk, leXL_id, bnd_int, bnd_bool, bnd_val, bnd_nil, bnd_junk, bnd_vs, bnd_xp, bnd_agg, bnd_tup, bnd_ptr, bnd_own, bnd_elem, bnd_fn, bnd_iface, bnd_opt, bndL_nil, bndL_cons, lenH_cons, lenH_nil, imp_self, implies_true, true_and, and_true]
                refine ⟨by simp, ?_⟩
                simp
                refine ⟨?_, ?_⟩
                · intro q hq
                  match q, hq with
                  | 0, _ => exact leL_self _ ⟨trivial, trivial⟩
                  | 1, _ => exact leL_self _ ⟨trivial, trivial⟩
                · intro q hq
                  rcases Nat.lt_or_ge q i with h' | h'
                  · rw [if_pos h']; exact leL_self _ ⟨trivial, trivial⟩
                  · obtain rfl : q = i := by omega
                    rw [if_neg (by omega), Nat.sub_self]
                    refine ⟨⟨rfl, ?_⟩, trivial⟩
                    rw [hea]; simp
      · have hil : i = l.length := by omega
        subst hil
        have hr : regF l key opn = (l.map (fun c => (turnsF c key opn : Int)), 0) := by
          rw [regF, if_neg (by rw [he]; simp), if_pos]
          rw [List.all_eq_true]
          intro c hc
          obtain ⟨j, hj, rfl⟩ := List.getElem_of_mem hc
          have := hle j hj
          rw [List.getD_eq_getElem?_getD, List.getElem?_eq_getElem hj] at this
          simpa using this
        rw [hr] at h
        refine ans_le (show k _ [] from h) ?_ ?_
        · dsimp only [expo, enc1, r_end, r_end1, r_nil, r_op, r_opg, r_runOp, r_op0, r_yld0, r_yld1, r_y, r_rbeg, r_rend, r_rend1, r_rfrm, r_rfrm1, r_range, r_rangeK, r_rangeE, r_draw, r_dnil, r_dop, r_dopg, r_dplq, r_dplh, r_dq, r_dq0, r_dcl1, r_dcl0, r_dct1, r_dct0, r_dgd, r_dgq1, r_dgq0, r_dctG, r_op1, r_eff, r_eff0, r_call, r_call0, r_inl, r_g, r_gq, r_gc, r_effg, r_effg0, r_callg, r_callg0, r_fin, r_pre, r_imp, r_all, r_ex, r_fing, r_preg, r_exg, r_inBlock, r_inLoop, r_frame, r_frame1, r_skip, r_region, r_seq, r_cond, r_cond1, r_block, r_exit, r_exit1, r_exit2, r_ret, r_loop, s_args0, s_args1, s_xt, s_xc, padL, blankL, callee, callArgs, eff, ctOf, getL, setL, S.put, S.upd, unopts, unopt, unoptsO, unoptsB, lazyO, guardOf, gbool, eMov, eNot, eNeg, eConv, eExt, eLenArr, eLen, eLenStr, eEqb, eEqv, allEq, eNil, negIf, eBool2, eCmp, eAri, ari, eBit, eDiv, eSh, eMinMax, foldMin, foldMax, kEq, pure1, cmpB, VO.quiet, resVals, resVal, tupled, popRet, popTo, cond, Option.bind, Option.map, eNew, eBox, asCells, lenH, snocH, eFieldAddr, eField, eLoad, cellsAt, getH, setH, dropL, takeL, mkAgg, lenL, lenS, shift, shiftL, shiftH, viewN, viewL, view, andT, junks, List.append_nil, Nat.beq, eIdxAddr, eIdxArr, eIndex, eStore, storeAt, spliceL, ones, one, eSlice, eSliceArr, bounds, subLo, addLo, eMake, eAppend, readS, repL, buildCells, chunk, purgeL, purgeLL, purgeH, purge, refs, refsL, List.cons_append, List.nil_append, wrOps, wrAl, wrDops, wrC, junkAt, putAll, putHs, headOf, headK, keepG, List.append_eq, headX, chkP, apartP, apartB, blk, strip, runAl, yld, putPs, lenN, findR, notRound, jumpK, jumpPT, jcode, List.map_cons, List.map_nil, ite_self, reduceIte]
          simp only [leS_mk, leL_cons, leL_nil, le_junk, le_int, le_bool, le_nil, leLL_nil, leLL_cons, leH_cons, leH_nil, leH1_box, leH1_own, leH1_gone, le_vs, le_agg, le_tup, le_ptr, le_own, le_xp, le_fn, le_opt, le_val, le_elem, le_nil_own, le_nil_vs, leH_ghost, leL_chunk, leXL_id, bnd_int, bnd_bool, bnd_val, bnd_nil, bnd_junk, bnd_vs, bnd_xp, bnd_agg, bnd_tup, bnd_ptr, bnd_own, bnd_elem, bnd_fn, bnd_iface, bnd_opt, bndL_nil, bndL_cons, lenH_cons, lenH_nil, imp_self, implies_true, true_and, and_true]
          refine ⟨by simp, by simp, fun q hq => leXL_eq ?_⟩
          simp [hq]
        · simp [freshS, freshL, enc1]
  · exact h.1.elim

theorem Reg17 : regC.ok Try.prog 17 := by
  refine contract Try.func17 v17_is G1_ok 800 regC fun args k h => ?_
  simp only [regC] at h
  split at h
  · rename_i tt z n sz get key opn
    obtain ⟨l, ⟨rfl, rfl, hg⟩, h⟩ := h
    refine ⟨[.vs tt z l.length 3 (fun k => encC (l.getD k default)), .int .i64 key, .int .i64 opn], by simpa [leL, le] using hg, ?_⟩
    dsimp only [v17, G1_ct41, rwhoC, G1_ct37, inC, encC, enc, r_end, r_end1, r_nil, r_op, r_opg, r_runOp, r_op0, r_yld0, r_yld1, r_y, r_rbeg, r_rend, r_rend1, r_rfrm, r_rfrm1, r_range, r_rangeK, r_rangeE, r_draw, r_dnil, r_dop, r_dopg, r_dplq, r_dplh, r_dq, r_dq0, r_dcl1, r_dcl0, r_dct1, r_dct0, r_dgd, r_dgq1, r_dgq0, r_dctG, r_op1, r_eff, r_eff0, r_call, r_call0, r_inl, r_g, r_gq, r_gc, r_effg, r_effg0, r_callg, r_callg0, r_fin, r_pre, r_imp, r_all, r_ex, r_fing, r_preg, r_exg, r_inBlock, r_inLoop, r_frame, r_frame1, r_skip, r_region, r_seq, r_cond, r_cond1, r_block, r_exit, r_exit1, r_exit2, r_ret, r_loop, s_args0, s_args1, s_xt, s_xc, padL, blankL, callee, callArgs, eff, ctOf, getL, setL, S.put, S.upd, unopts, unopt, unoptsO, unoptsB, lazyO, guardOf, gbool, eMov, eNot, eNeg, eConv, eExt, eLenArr, eLen, eLenStr, eEqb, eEqv, allEq, eNil, negIf, eBool2, eCmp, eAri, ari, eBit, eDiv, eSh, eMinMax, foldMin, foldMax, kEq, pure1, cmpB, VO.quiet, resVals, resVal, tupled, popRet, popTo, cond, Option.bind, Option.map, eNew, eBox, asCells, lenH, snocH, eFieldAddr, eField, eLoad, cellsAt, getH, setH, dropL, takeL, mkAgg, lenL, lenS, shift, shiftL, shiftH, viewN, viewL, view, andT, junks, List.append_nil, Nat.beq, eIdxAddr, eIdxArr, eIndex, eStore, storeAt, spliceL, ones, one, eSlice, eSliceArr, bounds, subLo, addLo, eMake, eAppend, readS, repL, buildCells, chunk, purgeL, purgeLL, purgeH, purge, refs, refsL, List.cons_append, List.nil_append, wrOps, wrAl, wrDops, wrC, junkAt, putAll, putHs, headOf, headK, keepG, List.append_eq, headX, chkP, apartP, apartB, blk, strip, runAl, yld, putPs, lenN, findR, notRound, jumpK, jumpPT, jcode, List.map_cons, List.map_nil, ite_self, reduceIte]
    simp only [true_and, and_true, imp_self, implies_true, decide_eq_true_eq, decide_eq_false_iff_not, Nat.reduceAdd, Nat.reduceLeDiff, Bool.not_not, reduceCtorEq, false_imp_iff, Bool.not_eq_true', Bool.not_eq_false', Bool.false_eq_true, and_self, forall_const, ne_eq, not_false_eq_true, Nat.reduceEqDiff]
    refine ⟨l, ⟨rfl, rfl, fun k _ => leXL_self _⟩, fun h1 h2 => by simp [h1, h2], ?_, ?_⟩
    · intro hb
      refine ⟨fun _ => ?_, fun h20 => absurd h20 (by decide)⟩
      have hr : regF l key opn = ([], 2) := by rw [regF, whole2_t hb, if_pos (by decide)]
      rw [hr] at h
      refine ans_le (show k _ [] from h) ?_ ?_
      · simp [expo, view, viewL, le, leL]
      · simp [freshS, freshL]
    · intro hb
      refine ⟨fun h0 => ?_, fun h0 => ?_⟩
      · have hr : regF l key opn = ([], rwholeF l) := by rw [regF, whole_e h0, if_pos h0]
        rw [hr] at h
        refine ans_le (show k _ [] from h) ?_ ?_
        · simp [expo, view, viewL, le, leL]
        · simp [freshS, freshL]
      have he := whole2_f h0 hb
      obtain ⟨h16, hall, hns⟩ := wholeF_ok he
      have hk := hns key (by simp)
      have ho := hns opn (by simp)
      refine Loop.keep [0, 0, 0, 3, 0, 1, 0] Nat (fun i => [(9, .own 0 0 i 1), (10, .int .i64 i)]) (fun i => [(0, .own (decide (i = 0)) 1 i (fun k => enc1 (turnsF (l.getD k default) key opn)))]) [.gone]
        (fun i => i ≤ l.length ∧ ∀ j, j < i → turnsF (l.getD j default) key opn ≤ 100) (fun i => l.length - i) ?_ ?_
      · refine ⟨0, ⟨Nat.zero_le _, fun j h => by omega⟩, ?_⟩
        dsimp only [r_end, r_end1, r_nil, r_op, r_opg, r_runOp, r_op0, r_yld0, r_yld1, r_y, r_rbeg, r_rend, r_rend1, r_rfrm, r_rfrm1, r_range, r_rangeK, r_rangeE, r_draw, r_dnil, r_dop, r_dopg, r_dplq, r_dplh, r_dq, r_dq0, r_dcl1, r_dcl0, r_dct1, r_dct0, r_dgd, r_dgq1, r_dgq0, r_dctG, r_op1, r_eff, r_eff0, r_call, r_call0, r_inl, r_g, r_gq, r_gc, r_effg, r_effg0, r_callg, r_callg0, r_fin, r_pre, r_imp, r_all, r_ex, r_fing, r_preg, r_exg, r_inBlock, r_inLoop, r_frame, r_frame1, r_skip, r_region, r_seq, r_cond, r_cond1, r_block, r_exit, r_exit1, r_exit2, r_ret, r_loop, s_args0, s_args1, s_xt, s_xc, padL, blankL, callee, callArgs, eff, ctOf, getL, setL, S.put, S.upd, unopts, unopt, unoptsO, unoptsB, lazyO, guardOf, gbool, eMov, eNot, eNeg, eConv, eExt, eLenArr, eLen, eLenStr, eEqb, eEqv, allEq, eNil, negIf, eBool2, eCmp, eAri, ari, eBit, eDiv, eSh, eMinMax, foldMin, foldMax, kEq, pure1, cmpB, VO.quiet, resVals, resVal, tupled, popRet, popTo, cond, Option.bind, Option.map, eNew, eBox, asCells, lenH, snocH, eFieldAddr, eField, eLoad, cellsAt, getH, setH, dropL, takeL, mkAgg, lenL, lenS, shift, shiftL, shiftH, viewN, viewL, view, andT, junks, List.append_nil, Nat.beq, eIdxAddr, eIdxArr, eIndex, eStore, storeAt, spliceL, ones, one, eSlice, eSliceArr, bounds, subLo, addLo, eMake, eAppend, readS, repL, buildCells, chunk, purgeL, purgeLL, purgeH, purge, refs, refsL, List.cons_append, List.nil_append, wrOps, wrAl, wrDops, wrC, junkAt, putAll, putHs, headOf, headK, keepG, List.append_eq, headX, chkP, apartP, apartB, blk, strip, runAl, yld, putPs, lenN, findR, notRound, jumpK, jumpPT, jcode, List.map_cons, List.map_nil, ite_self, reduceIte]
        simp only [leS_mk, leL_cons, leL_nil, le_junk, le_int, le_bool, le_nil, leLL_nil, leLL_cons, leH_cons, leH_nil, leH1_box, leH1_own, leH1_gone, le_vs, le_agg, le_tup, le_ptr, le_own, le_xp, le_fn, le_opt, le_val, le_elem, le_nil_own, le_nil_vs, leH_ghost, leL_chunk, leXL_id, bnd_int, bnd_bool, bnd_val, bnd_nil, bnd_junk, bnd_vs, bnd_xp, bnd_agg, bnd_tup, bnd_ptr, bnd_own, bnd_elem, bnd_fn, bnd_iface, bnd_opt, bndL_nil, bndL_cons, lenH_cons, lenH_nil, imp_self, implies_true, true_and, and_true]
        simp
      · rintro i ⟨hi, hle⟩
        dsimp only [encC, enc, enc1, Int.toNat_natCast, r_end, r_end1, r_nil, r_op, r_opg, r_runOp, r_op0, r_yld0, r_yld1, r_y, r_rbeg, r_rend, r_rend1, r_rfrm, r_rfrm1, r_range, r_rangeK, r_rangeE, r_draw, r_dnil, r_dop, r_dopg, r_dplq, r_dplh, r_dq, r_dq0, r_dcl1, r_dcl0, r_dct1, r_dct0, r_dgd, r_dgq1, r_dgq0, r_dctG, r_op1, r_eff, r_eff0, r_call, r_call0, r_inl, r_g, r_gq, r_gc, r_effg, r_effg0, r_callg, r_callg0, r_fin, r_pre, r_imp, r_all, r_ex, r_fing, r_preg, r_exg, r_inBlock, r_inLoop, r_frame, r_frame1, r_skip, r_region, r_seq, r_cond, r_cond1, r_block, r_exit, r_exit1, r_exit2, r_ret, r_loop, s_args0, s_args1, s_xt, s_xc, padL, blankL, callee, callArgs, eff, ctOf, getL, setL, S.put, S.upd, unopts, unopt, unoptsO, unoptsB, lazyO, guardOf, gbool, eMov, eNot, eNeg, eConv, eExt, eLenArr, eLen, eLenStr, eEqb, eEqv, allEq, eNil, negIf, eBool2, eCmp, eAri, ari, eBit, eDiv, eSh, eMinMax, foldMin, foldMax, kEq, pure1, cmpB, VO.quiet, resVals, resVal, tupled, popRet, popTo, cond, Option.bind, Option.map, eNew, eBox, asCells, lenH, snocH, eFieldAddr, eField, eLoad, cellsAt, getH, setH, dropL, takeL, mkAgg, lenL, lenS, shift, shiftL, shiftH, viewN, viewL, view, andT, junks, List.append_nil, Nat.beq, eIdxAddr, eIdxArr, eIndex, eStore, storeAt, spliceL, ones, one, eSlice, eSliceArr, bounds, subLo, addLo, eMake, eAppend, readS, repL, buildCells, chunk, purgeL, purgeLL, purgeH, purge, refs, refsL, List.cons_append, List.nil_append, wrOps, wrAl, wrDops, wrC, junkAt, putAll, putHs, headOf, headK, keepG, List.append_eq, headX, chkP, apartP, apartB, blk, strip, runAl, yld, putPs, lenN, findR, notRound, jumpK, jumpPT, jcode, List.map_cons, List.map_nil, ite_self, reduceIte]
        simp only [true_and, and_true, imp_self, implies_true, decide_eq_true_eq, decide_eq_false_iff_not, Nat.reduceAdd, Nat.reduceLeDiff, Bool.not_not, reduceCtorEq, false_imp_iff, Bool.not_eq_true', Bool.not_eq_false', Bool.false_eq_true, and_self, forall_const, ne_eq, not_false_eq_true, Nat.reduceEqDiff]
        refine ⟨fun hlt => ?_, fun hge => ?_⟩
        · have hil : i < l.length := by omega
          have hc : chkF (l.getD i default) = 0 := hall _ (getD_mem hil)
          have hc100 : (l.getD i default).parts.length ≤ 100 := (chk_iv0 hc hk).2.1
          refine Loop.keep [0, 0, 0, 3, 0, 1, 0, 0] Nat (fun a => [(11, .int .i64 a)]) (fun _ => []) [] (fun a => a ≤ 101 ∧ ∀ j, j < a → enoughF (l.getD i default).parts (l.getD i default).turn j key opn = false) (fun a => 101 - a) ?_ ?_
          · refine ⟨0, ⟨Nat.zero_le _, fun j h => by omega⟩, ?_⟩
            dsimp only [r_end, r_end1, r_nil, r_op, r_opg, r_runOp, r_op0, r_yld0, r_yld1, r_y, r_rbeg, r_rend, r_rend1, r_rfrm, r_rfrm1, r_range, r_rangeK, r_rangeE, r_draw, r_dnil, r_dop, r_dopg, r_dplq, r_dplh, r_dq, r_dq0, r_dcl1, r_dcl0, r_dct1, r_dct0, r_dgd, r_dgq1, r_dgq0, r_dctG, r_op1, r_eff, r_eff0, r_call, r_call0, r_inl, r_g, r_gq, r_gc, r_effg, r_effg0, r_callg, r_callg0, r_fin, r_pre, r_imp, r_all, r_ex, r_fing, r_preg, r_exg, r_inBlock, r_inLoop, r_frame, r_frame1, r_skip, r_region, r_seq, r_cond, r_cond1, r_block, r_exit, r_exit1, r_exit2, r_ret, r_loop, s_args0, s_args1, s_xt, s_xc, padL, blankL, callee, callArgs, eff, ctOf, getL, setL, S.put, S.upd, unopts, unopt, unoptsO, unoptsB, lazyO, guardOf, gbool, eMov, eNot, eNeg, eConv, eExt, eLenArr, eLen, eLenStr, eEqb, eEqv, allEq, eNil, negIf, eBool2, eCmp, eAri, ari, eBit, eDiv, eSh, eMinMax, foldMin, foldMax, kEq, pure1, cmpB, VO.quiet, resVals, resVal, tupled, popRet, popTo, cond, Option.bind, Option.map, eNew, eBox, asCells, lenH, snocH, eFieldAddr, eField, eLoad, cellsAt, getH, setH, dropL, takeL, mkAgg, lenL, lenS, shift, shiftL, shiftH, viewN, viewL, view, andT, junks, List.append_nil, Nat.beq, eIdxAddr, eIdxArr, eIndex, eStore, storeAt, spliceL, ones, one, eSlice, eSliceArr, bounds, subLo, addLo, eMake, eAppend, readS, repL, buildCells, chunk, purgeL, purgeLL, purgeH, purge, refs, refsL, List.cons_append, List.nil_append, wrOps, wrAl, wrDops, wrC, junkAt, putAll, putHs, headOf, headK, keepG, List.append_eq, headX, chkP, apartP, apartB, blk, strip, runAl, yld, putPs, lenN, findR, notRound, jumpK, jumpPT, jcode, List.map_cons, List.map_nil, ite_self, reduceIte]
            simp only [leS_mk, leL_cons, leL_nil, le_junk, le_int, le_bool, le_nil, leLL_nil, leLL_cons, leH_cons, leH_nil, leH1_box, leH1_own, leH1_gone, le_vs, le_agg, le_tup, le_ptr, le_own, le_xp, le_fn, le_opt, le_val, le_elem, le_nil_own, le_nil_vs, leH_ghost, leL_chunk, leXL_id, bnd_int, bnd_bool, bnd_val, bnd_nil, bnd_junk, bnd_vs, bnd_xp, bnd_agg, bnd_tup, bnd_ptr, bnd_own, bnd_elem, bnd_fn, bnd_iface, bnd_opt, bndL_nil, bndL_cons, lenH_cons, lenH_nil, imp_self, implies_true, true_and, and_true]
            simp
          · rintro a ⟨ha, hlo⟩
            dsimp only [G1_ct35, enoC, encC, enc, enc1, Int.toNat_natCast, r_end, r_end1, r_nil, r_op, r_opg, r_runOp, r_op0, r_yld0, r_yld1, r_y, r_rbeg, r_rend, r_rend1, r_rfrm, r_rfrm1, r_range, r_rangeK, r_rangeE, r_draw, r_dnil, r_dop, r_dopg, r_dplq, r_dplh, r_dq, r_dq0, r_dcl1, r_dcl0, r_dct1, r_dct0, r_dgd, r_dgq1, r_dgq0, r_dctG, r_op1, r_eff, r_eff0, r_call, r_call0, r_inl, r_g, r_gq, r_gc, r_effg, r_effg0, r_callg, r_callg0, r_fin, r_pre, r_imp, r_all, r_ex, r_fing, r_preg, r_exg, r_inBlock, r_inLoop, r_frame, r_frame1, r_skip, r_region, r_seq, r_cond, r_cond1, r_block, r_exit, r_exit1, r_exit2, r_ret, r_loop, s_args0, s_args1, s_xt, s_xc, padL, blankL, callee, callArgs, eff, ctOf, getL, setL, S.put, S.upd, unopts, unopt, unoptsO, unoptsB, lazyO, guardOf, gbool, eMov, eNot, eNeg, eConv, eExt, eLenArr, eLen, eLenStr, eEqb, eEqv, allEq, eNil, negIf, eBool2, eCmp, eAri, ari, eBit, eDiv, eSh, eMinMax, foldMin, foldMax, kEq, pure1, cmpB, VO.quiet, resVals, resVal, tupled, popRet, popTo, cond, Option.bind, Option.map, eNew, eBox, asCells, lenH, snocH, eFieldAddr, eField, eLoad, cellsAt, getH, setH, dropL, takeL, mkAgg, lenL, lenS, shift, shiftL, shiftH, viewN, viewL, view, andT, junks, List.append_nil, Nat.beq, eIdxAddr, eIdxArr, eIndex, eStore, storeAt, spliceL, ones, one, eSlice, eSliceArr, bounds, subLo, addLo, eMake, eAppend, readS, repL, buildCells, chunk, purgeL, purgeLL, purgeH, purge, refs, refsL, List.cons_append, List.nil_append, wrOps, wrAl, wrDops, wrC, junkAt, putAll, putHs, headOf, headK, keepG, List.append_eq, headX, chkP, apartP, apartB, blk, strip, runAl, yld, putPs, lenN, findR, notRound, jumpK, jumpPT, jcode, List.map_cons, List.map_nil, ite_self, reduceIte]
            simp only [true_and, and_true, imp_self, implies_true, decide_eq_true_eq, decide_eq_false_iff_not, Nat.reduceAdd, Nat.reduceLeDiff, Bool.not_not, reduceCtorEq, false_imp_iff, Bool.not_eq_true', Bool.not_eq_false', Bool.false_eq_true, and_self, forall_const, ne_eq, not_false_eq_true, Nat.reduceEqDiff]
            refine ⟨fun _ => ⟨by omega, hlt⟩, (l.getD i default).parts, fun _ => ⟨⟨rfl, fun _ _ => rfl⟩, hc100⟩, fun hb => ?_, fun hb => ?_⟩
            · simp only [Bool.and_eq_true, decide_eq_true_eq, Bool.not_eq_true'] at hb
              refine ⟨a + 1, ⟨by omega, fun j hj => ?_⟩, by omega, ?_⟩
              · rcases Nat.lt_or_ge j a with h' | h'
                · exact hlo j h'
                · obtain rfl : j = a := by omega
                  exact hb.2
              · have hw := w_succ (i := a) (n := 101) (by omega) (by omega)
                simp only [hw, leS_mk, leL_cons, leL_nil, le_junk, le_int, le_bool, le_nil, leLL_nil, leLL_cons, leH_cons, leH_nil, leH1_box, leH1_own, leH1_gone, le_vs, le_agg, le_tup, le_ptr, le_own, le_xp, le_fn, le_opt, le_val, le_elem, le_nil_own, le_nil_vs, leH_ghost, leL_chunk, leXL_id, bnd_int, bnd_bool, bnd_val, bnd_nil, bnd_junk, bnd_vs, bnd_xp, bnd_agg, bnd_tup, bnd_ptr, bnd_own, bnd_elem, bnd_fn, bnd_iface, bnd_opt, bndL_nil, bndL_cons, lenH_cons, lenH_nil, imp_self, implies_true, true_and, and_true]
                exact Nat.zero_lt_succ _
            · have hea : a = turnsF (l.getD i default) key opn := by
                refine (leastF_eq (fun j hj => hlo j hj) ha (fun ha2 => ?_)).symm
                have h100 : decide ((a : Int) ≤ 100) = true := by rw [decide_eq_true_eq]; omega
                rw [h100, Bool.true_and, Bool.not_eq_false'] at hb
                exact hb
              dsimp only [r_end, r_end1, r_nil, r_op, r_opg, r_runOp, r_op0, r_yld0, r_yld1, r_y, r_rbeg, r_rend, r_rend1, r_rfrm, r_rfrm1, r_range, r_rangeK, r_rangeE, r_draw, r_dnil, r_dop, r_dopg, r_dplq, r_dplh, r_dq, r_dq0, r_dcl1, r_dcl0, r_dct1, r_dct0, r_dgd, r_dgq1, r_dgq0, r_dctG, r_op1, r_eff, r_eff0, r_call, r_call0, r_inl, r_g, r_gq, r_gc, r_effg, r_effg0, r_callg, r_callg0, r_fin, r_pre, r_imp, r_all, r_ex, r_fing, r_preg, r_exg, r_inBlock, r_inLoop, r_frame, r_frame1, r_skip, r_region, r_seq, r_cond, r_cond1, r_block, r_exit, r_exit1, r_exit2, r_ret, r_loop, s_args0, s_args1, s_xt, s_xc, padL, blankL, callee, callArgs, eff, ctOf, getL, setL, S.put, S.upd, unopts, unopt, unoptsO, unoptsB, lazyO, guardOf, gbool, eMov, eNot, eNeg, eConv, eExt, eLenArr, eLen, eLenStr, eEqb, eEqv, allEq, eNil, negIf, eBool2, eCmp, eAri, ari, eBit, eDiv, eSh, eMinMax, foldMin, foldMax, kEq, pure1, cmpB, VO.quiet, resVals, resVal, tupled, popRet, popTo, cond, Option.bind, Option.map, eNew, eBox, asCells, lenH, snocH, eFieldAddr, eField, eLoad, cellsAt, getH, setH, dropL, takeL, mkAgg, lenL, lenS, shift, shiftL, shiftH, viewN, viewL, view, andT, junks, List.append_nil, Nat.beq, eIdxAddr, eIdxArr, eIndex, eStore, storeAt, spliceL, ones, one, eSlice, eSliceArr, bounds, subLo, addLo, eMake, eAppend, readS, repL, buildCells, chunk, purgeL, purgeLL, purgeH, purge, refs, refsL, List.cons_append, List.nil_append, wrOps, wrAl, wrDops, wrC, junkAt, putAll, putHs, headOf, headK, keepG, List.append_eq, headX, chkP, apartP, apartB, blk, strip, runAl, yld, putPs, lenN, findR, notRound, jumpK, jumpPT, jcode, List.map_cons, List.map_nil, ite_self, reduceIte]
              simp only [true_and, and_true, imp_self, implies_true, decide_eq_true_eq, decide_eq_false_iff_not, Nat.reduceAdd, Nat.reduceLeDiff, Bool.not_not, reduceCtorEq, false_imp_iff, Bool.not_eq_true', Bool.not_eq_false', Bool.false_eq_true, and_self, forall_const, ne_eq, not_false_eq_true, Nat.reduceEqDiff]
              refine ⟨fun hbig => ?_, fun hsm => ?_⟩
              · have hr : regF l key opn = ([], 7) := by
                  rw [regF, if_neg (by rw [he]; simp), if_neg]
                  intro hall2
                  have := List.all_eq_true.1 hall2 _ (getD_mem hil)
                  simp only [decide_eq_true_eq] at this
                  omega
                rw [hr] at h
                refine ans_le (show k _ [] from h) ?_ ?_
                · simp [expo, view, viewL, le, leL]
                · simp [freshS, freshL]
              · refine ⟨by decide, ⟨by simp only [capOk]; omega, fun k hk => ?_⟩, i + 1, ⟨by omega, fun j hj => ?_⟩, by omega, ?_⟩
                · match k, hk with
                  | 0, _ => exact ⟨rfl, trivial, trivial⟩
                · rcases Nat.lt_or_ge j i with h' | h'
                  · exact hle j h'
                  · obtain rfl : j = i := by omega
                    omega
                · have hw := w_succ (i := i) (n := l.length) (by omega) (by omega)
                  simp only [hw, leS_mk, leL_cons, leL_nil, le_junk, le_int, le_bool, le_nil, leLL_nil, leLL_cons, leH_cons, leH_nil, leH1_box, leH1_own, leH1_gone, le_vs, le_agg, le_tup, le_ptr, le_own, le_xp, le_fn, le_opt, le_val, le_elem, le_nil_own, le_nil_vs, leH_ghost, leL_chunk, leXL_id, bnd_int, bnd_bool, bnd_val, bnd_nil, bnd_junk, bnd_vs, bnd_xp, bnd_agg, bnd_tup, bnd_ptr, bnd_own, bnd_elem, bnd_fn, bnd_iface, bnd_opt, bndL_nil, bndL_cons, lenH_cons, lenH_nil, imp_self, implies_true, true_and, and_true]
                  refine ⟨by simp, ?_⟩
                  simp
                  intro q hq
                  rcases Nat.lt_or_ge q i with h' | h'
                  · rw [if_pos h']; exact leL_self _ ⟨trivial, trivial⟩
                  · obtain rfl : q = i := by omega
                    rw [if_neg (by omega), Nat.sub_self]
                    refine ⟨⟨rfl, ?_⟩, trivial⟩
                    rw [hea]; simp
        · have hil : i = l.length := by omega
          subst hil
          have hr : regF l key opn = (l.map (fun c => (turnsF c key opn : Int)), 0) := by
            rw [regF, if_neg (by rw [he]; simp), if_pos]
            rw [List.all_eq_true]
            intro c hc
            obtain ⟨j, hj, rfl⟩ := List.getElem_of_mem hc
            have := hle j hj
            rw [List.getD_eq_getElem?_getD, List.getElem?_eq_getElem hj] at this
            simpa using this
          rw [hr] at h
          refine ans_le (show k _ [] from h) ?_ ?_
          · dsimp only [expo, enc1, r_end, r_end1, r_nil, r_op, r_opg, r_runOp, r_op0, r_yld0, r_yld1, r_y, r_rbeg, r_rend, r_rend1, r_rfrm, r_rfrm1, r_range, r_rangeK, r_rangeE, r_draw, r_dnil, r_dop, r_dopg, r_dplq, r_dplh, r_dq, r_dq0, r_dcl1, r_dcl0, r_dct1, r_dct0, r_dgd, r_dgq1, r_dgq0, r_dctG, r_op1, r_eff, r_eff0, r_call, r_call0, r_inl, r_g, r_gq, r_gc, r_effg, r_effg0, r_callg, r_callg0, r_fin, r_pre, r_imp, r_all, r_ex, r_fing, r_preg, r_exg, r_inBlock, r_inLoop, r_frame, r_frame1, r_skip, r_region, r_seq, r_cond, r_cond1, r_block, r_exit, r_exit1, r_exit2, r_ret, r_loop, s_args0, s_args1, s_xt, s_xc, padL, blankL, callee, callArgs, eff, ctOf, getL, setL, S.put, S.upd, unopts, unopt, unoptsO, unoptsB, lazyO, guardOf, gbool, eMov, eNot, eNeg, eConv, eExt, eLenArr, eLen, eLenStr, eEqb, eEqv, allEq, eNil, negIf, eBool2, eCmp, eAri, ari, eBit, eDiv, eSh, eMinMax, foldMin, foldMax, kEq, pure1, cmpB, VO.quiet, resVals, resVal, tupled, popRet, popTo, cond, Option.bind, Option.map, eNew, eBox, asCells, lenH, snocH, eFieldAddr, eField, eLoad, cellsAt, getH, setH, dropL, takeL, mkAgg, lenL, lenS, shift, shiftL, shiftH, viewN, viewL, view, andT, junks, List.append_nil, Nat.beq, eIdxAddr, eIdxArr, eIndex, eStore, storeAt, spliceL, ones, one, eSlice, eSliceArr, bounds, subLo, addLo, eMake, eAppend, readS, repL, buildCells, chunk, purgeL, purgeLL, purgeH, purge, refs, refsL, List.cons_append, List.nil_append, wrOps, wrAl, wrDops, wrC, junkAt, putAll, putHs, headOf, headK, keepG, List.append_eq, headX, chkP, apartP, apartB, blk, strip, runAl, yld, putPs, lenN, findR, notRound, jumpK, jumpPT, jcode, List.map_cons, List.map_nil, ite_self, reduceIte]
            simp only [leS_mk, leL_cons, leL_nil, le_junk, le_int, le_bool, le_nil, leLL_nil, leLL_cons, leH_cons, leH_nil, leH1_box, leH1_own, leH1_gone, le_vs, le_agg, le_tup, le_ptr, le_own, le_xp, le_fn, le_opt, le_val, le_elem, le_nil_own, le_nil_vs, leH_ghost, leL_chunk, leXL_id, bnd_int, bnd_bool, bnd_val, bnd_nil, bnd_junk, bnd_vs, bnd_xp, bnd_agg, bnd_tup, bnd_ptr, bnd_own, bnd_elem, bnd_fn, bnd_iface, bnd_opt, bndL_nil, bndL_cons, lenH_cons, lenH_nil, imp_self, implies_true, true_and, and_true]
            refine ⟨by simp, by simp, fun q hq => leXL_eq ?_⟩
            simp [hq]
          · simp [freshS, freshL, enc1]
  · exact h.1.elim

def coupC : Ctr := { alias := false, of := fun a => match a with
  | [.vs _ _ n sz get, .int .i64 key] => .ex (List Chain) fun l => .pre (lsP 3 encC n sz get l) (.fin (.tup [.vs true (decide ((coupF l key).1.length = 0)) (coupF l key).1.length 2 (fun k => enc2 ((coupF l key).1.getD k default)), .agg [.int .i64 (coupF l key).2.1.1, .int .i64 (coupF l key).2.1.2], .int .i64 (coupF l key).2.2]) [])
  | _ => noC }

theorem Coup22 : coupC.ok Try.prog 22 := by
  refine contract Try.func22 v22_is G1_ok 800 coupC fun args k h => ?_
  simp only [coupC] at h
  split at h
  · rename_i tt z n sz get key
    obtain ⟨l, ⟨rfl, rfl, hg⟩, h⟩ := h
    refine ⟨[.vs tt z l.length 3 (fun k => encC (l.getD k default)), .int .i64 key], by simpa [leL, le] using hg, ?_⟩
    dsimp only [v22, G1_ct38, whoC, encC, enc, r_end, r_end1, r_nil, r_op, r_opg, r_runOp, r_op0, r_yld0, r_yld1, r_y, r_rbeg, r_rend, r_rend1, r_rfrm, r_rfrm1, r_range, r_rangeK, r_rangeE, r_draw, r_dnil, r_dop, r_dopg, r_dplq, r_dplh, r_dq, r_dq0, r_dcl1, r_dcl0, r_dct1, r_dct0, r_dgd, r_dgq1, r_dgq0, r_dctG, r_op1, r_eff, r_eff0, r_call, r_call0, r_inl, r_g, r_gq, r_gc, r_effg, r_effg0, r_callg, r_callg0, r_fin, r_pre, r_imp, r_all, r_ex, r_fing, r_preg, r_exg, r_inBlock, r_inLoop, r_frame, r_frame1, r_skip, r_region, r_seq, r_cond, r_cond1, r_block, r_exit, r_exit1, r_exit2, r_ret, r_loop, s_args0, s_args1, s_xt, s_xc, padL, blankL, callee, callArgs, eff, ctOf, getL, setL, S.put, S.upd, unopts, unopt, unoptsO, unoptsB, lazyO, guardOf, gbool, eMov, eNot, eNeg, eConv, eExt, eLenArr, eLen, eLenStr, eEqb, eEqv, allEq, eNil, negIf, eBool2, eCmp, eAri, ari, eBit, eDiv, eSh, eMinMax, foldMin, foldMax, kEq, pure1, cmpB, VO.quiet, resVals, resVal, tupled, popRet, popTo, cond, Option.bind, Option.map, eNew, eBox, asCells, lenH, snocH, eFieldAddr, eField, eLoad, cellsAt, getH, setH, dropL, takeL, mkAgg, lenL, lenS, shift, shiftL, shiftH, viewN, viewL, view, andT, junks, List.append_nil, Nat.beq, eIdxAddr, eIdxArr, eIndex, eStore, storeAt, spliceL, ones, one, eSlice, eSliceArr, bounds, subLo, addLo, eMake, eAppend, readS, repL, buildCells, chunk, purgeL, purgeLL, purgeH, purge, refs, refsL, List.cons_append, List.nil_append, wrOps, wrAl, wrDops, wrC, junkAt, putAll, putHs, headOf, headK, keepG, List.append_eq, headX, chkP, apartP, apartB, blk, strip, runAl, yld, putPs, lenN, findR, notRound, jumpK, jumpPT, jcode, List.map_cons, List.map_nil, ite_self, reduceIte]
    simp only [true_and, and_true, imp_self, implies_true, decide_eq_true_eq, decide_eq_false_iff_not, Nat.reduceAdd, Nat.reduceLeDiff, Bool.not_not, reduceCtorEq, false_imp_iff, Bool.not_eq_true', Bool.not_eq_false', Bool.false_eq_true, and_self, forall_const, ne_eq, not_false_eq_true, Nat.reduceEqDiff]
    refine ⟨by decide, l, ⟨rfl, rfl, fun k _ => leXL_self _⟩, [key], ⟨⟨rfl, rfl, fun k hk => ?_⟩, by simp⟩, fun he => ?_, fun he => ?_⟩
    · match k, hk with
      | 0, _ => exact leXL_self _
    · have hr : coupF l key = ([], (0, 0), wholeF l [key]) := by rw [coupF, if_pos he]
      rw [hr] at h
      refine ans_le (show k _ [] from h) ?_ ?_
      · simp [expo, view, viewL, le, leL]
      · simp [freshS, freshL]
    obtain ⟨h16, hall, hns⟩ := wholeF_ok he
    have hk := hns key (by simp)
    refine Loop.keep [1, 2, 0, 0, 1, 0, 11, 0, 0] Nat (fun i => [(8, .own 3 0 i 2), (23, .int .i64 i)]) (fun i => [(3, .own (decide (i = 0)) 2 i (fun k => enc2 (ivs (l.getD k default) key))), (2, .box (enc2 (sumF (l.take i))))]) [.gone]
      (fun i => i ≤ l.length) (fun i => l.length - i) ?_ ?_
    · refine ⟨0, Nat.zero_le _, ?_⟩
      dsimp only [enc2, sumF, List.take_zero, List.foldl_nil, r_end, r_end1, r_nil, r_op, r_opg, r_runOp, r_op0, r_yld0, r_yld1, r_y, r_rbeg, r_rend, r_rend1, r_rfrm, r_rfrm1, r_range, r_rangeK, r_rangeE, r_draw, r_dnil, r_dop, r_dopg, r_dplq, r_dplh, r_dq, r_dq0, r_dcl1, r_dcl0, r_dct1, r_dct0, r_dgd, r_dgq1, r_dgq0, r_dctG, r_op1, r_eff, r_eff0, r_call, r_call0, r_inl, r_g, r_gq, r_gc, r_effg, r_effg0, r_callg, r_callg0, r_fin, r_pre, r_imp, r_all, r_ex, r_fing, r_preg, r_exg, r_inBlock, r_inLoop, r_frame, r_frame1, r_skip, r_region, r_seq, r_cond, r_cond1, r_block, r_exit, r_exit1, r_exit2, r_ret, r_loop, s_args0, s_args1, s_xt, s_xc, padL, blankL, callee, callArgs, eff, ctOf, getL, setL, S.put, S.upd, unopts, unopt, unoptsO, unoptsB, lazyO, guardOf, gbool, eMov, eNot, eNeg, eConv, eExt, eLenArr, eLen, eLenStr, eEqb, eEqv, allEq, eNil, negIf, eBool2, eCmp, eAri, ari, eBit, eDiv, eSh, eMinMax, foldMin, foldMax, kEq, pure1, cmpB, VO.quiet, resVals, resVal, tupled, popRet, popTo, cond, Option.bind, Option.map, eNew, eBox, asCells, lenH, snocH, eFieldAddr, eField, eLoad, cellsAt, getH, setH, dropL, takeL, mkAgg, lenL, lenS, shift, shiftL, shiftH, viewN, viewL, view, andT, junks, List.append_nil, Nat.beq, eIdxAddr, eIdxArr, eIndex, eStore, storeAt, spliceL, ones, one, eSlice, eSliceArr, bounds, subLo, addLo, eMake, eAppend, readS, repL, buildCells, chunk, purgeL, purgeLL, purgeH, purge, refs, refsL, List.cons_append, List.nil_append, wrOps, wrAl, wrDops, wrC, junkAt, putAll, putHs, headOf, headK, keepG, List.append_eq, headX, chkP, apartP, apartB, blk, strip, runAl, yld, putPs, lenN, findR, notRound, jumpK, jumpPT, jcode, List.map_cons, List.map_nil, ite_self, reduceIte]
      simp only [leS_mk, leL_cons, leL_nil, le_junk, le_int, le_bool, le_nil, leLL_nil, leLL_cons, leH_cons, leH_nil, leH1_box, leH1_own, leH1_gone, le_vs, le_agg, le_tup, le_ptr, le_own, le_xp, le_fn, le_opt, le_val, le_elem, le_nil_own, le_nil_vs, leH_ghost, leL_chunk, leXL_id, bnd_int, bnd_bool, bnd_val, bnd_nil, bnd_junk, bnd_vs, bnd_xp, bnd_agg, bnd_tup, bnd_ptr, bnd_own, bnd_elem, bnd_fn, bnd_iface, bnd_opt, bndL_nil, bndL_cons, lenH_cons, lenH_nil, imp_self, implies_true, true_and, and_true]
      simp
    · rintro i hi
      dsimp only [G1_ct42, touC, G1_ct28, travC, G1_ct29, ivC, encC, enc, encQ, enc2, Int.toNat_natCast, r_end, r_end1, r_nil, r_op, r_opg, r_runOp, r_op0, r_yld0, r_yld1, r_y, r_rbeg, r_rend, r_rend1, r_rfrm, r_rfrm1, r_range, r_rangeK, r_rangeE, r_draw, r_dnil, r_dop, r_dopg, r_dplq, r_dplh, r_dq, r_dq0, r_dcl1, r_dcl0, r_dct1, r_dct0, r_dgd, r_dgq1, r_dgq0, r_dctG, r_op1, r_eff, r_eff0, r_call, r_call0, r_inl, r_g, r_gq, r_gc, r_effg, r_effg0, r_callg, r_callg0, r_fin, r_pre, r_imp, r_all, r_ex, r_fing, r_preg, r_exg, r_inBlock, r_inLoop, r_frame, r_frame1, r_skip, r_region, r_seq, r_cond, r_cond1, r_block, r_exit, r_exit1, r_exit2, r_ret, r_loop, s_args0, s_args1, s_xt, s_xc, padL, blankL, callee, callArgs, eff, ctOf, getL, setL, S.put, S.upd, unopts, unopt, unoptsO, unoptsB, lazyO, guardOf, gbool, eMov, eNot, eNeg, eConv, eExt, eLenArr, eLen, eLenStr, eEqb, eEqv, allEq, eNil, negIf, eBool2, eCmp, eAri, ari, eBit, eDiv, eSh, eMinMax, foldMin, foldMax, kEq, pure1, cmpB, VO.quiet, resVals, resVal, tupled, popRet, popTo, cond, Option.bind, Option.map, eNew, eBox, asCells, lenH, snocH, eFieldAddr, eField, eLoad, cellsAt, getH, setH, dropL, takeL, mkAgg, lenL, lenS, shift, shiftL, shiftH, viewN, viewL, view, andT, junks, List.append_nil, Nat.beq, eIdxAddr, eIdxArr, eIndex, eStore, storeAt, spliceL, ones, one, eSlice, eSliceArr, bounds, subLo, addLo, eMake, eAppend, readS, repL, buildCells, chunk, purgeL, purgeLL, purgeH, purge, refs, refsL, List.cons_append, List.nil_append, wrOps, wrAl, wrDops, wrC, junkAt, putAll, putHs, headOf, headK, keepG, List.append_eq, headX, chkP, apartP, apartB, blk, strip, runAl, yld, putPs, lenN, findR, notRound, jumpK, jumpPT, jcode, List.map_cons, List.map_nil, ite_self, reduceIte]
      simp only [true_and, and_true, imp_self, implies_true, decide_eq_true_eq, decide_eq_false_iff_not, Nat.reduceAdd, Nat.reduceLeDiff, Bool.not_not, reduceCtorEq, false_imp_iff, Bool.not_eq_true', Bool.not_eq_false', Bool.false_eq_true, and_self, forall_const, ne_eq, not_false_eq_true, Nat.reduceEqDiff]
      dsimp only [r_end, r_end1, r_nil, r_op, r_opg, r_runOp, r_op0, r_yld0, r_yld1, r_y, r_rbeg, r_rend, r_rend1, r_rfrm, r_rfrm1, r_range, r_rangeK, r_rangeE, r_draw, r_dnil, r_dop, r_dopg, r_dplq, r_dplh, r_dq, r_dq0, r_dcl1, r_dcl0, r_dct1, r_dct0, r_dgd, r_dgq1, r_dgq0, r_dctG, r_op1, r_eff, r_eff0, r_call, r_call0, r_inl, r_g, r_gq, r_gc, r_effg, r_effg0, r_callg, r_callg0, r_fin, r_pre, r_imp, r_all, r_ex, r_fing, r_preg, r_exg, r_inBlock, r_inLoop, r_frame, r_frame1, r_skip, r_region, r_seq, r_cond, r_cond1, r_block, r_exit, r_exit1, r_exit2, r_ret, r_loop, s_args0, s_args1, s_xt, s_xc, padL, blankL, callee, callArgs, eff, ctOf, getL, setL, S.put, S.upd, unopts, unopt, unoptsO, unoptsB, lazyO, guardOf, gbool, eMov, eNot, eNeg, eConv, eExt, eLenArr, eLen, eLenStr, eEqb, eEqv, allEq, eNil, negIf, eBool2, eCmp, eAri, ari, eBit, eDiv, eSh, eMinMax, foldMin, foldMax, kEq, pure1, cmpB, VO.quiet, resVals, resVal, tupled, popRet, popTo, cond, Option.bind, Option.map, eNew, eBox, asCells, lenH, snocH, eFieldAddr, eField, eLoad, cellsAt, getH, setH, dropL, takeL, mkAgg, lenL, lenS, shift, shiftL, shiftH, viewN, viewL, view, andT, junks, List.append_nil, Nat.beq, eIdxAddr, eIdxArr, eIndex, eStore, storeAt, spliceL, ones, one, eSlice, eSliceArr, bounds, subLo, addLo, eMake, eAppend, readS, repL, buildCells, chunk, purgeL, purgeLL, purgeH, purge, refs, refsL, List.cons_append, List.nil_append, wrOps, wrAl, wrDops, wrC, junkAt, putAll, putHs, headOf, headK, keepG, List.append_eq, headX, chkP, apartP, apartB, blk, strip, runAl, yld, putPs, lenN, findR, notRound, jumpK, jumpPT, jcode, List.map_cons, List.map_nil, ite_self, reduceIte]
      simp only [true_and, and_true, imp_self, implies_true, decide_eq_true_eq, decide_eq_false_iff_not, Nat.reduceAdd, Nat.reduceLeDiff, Bool.not_not, reduceCtorEq, false_imp_iff, Bool.not_eq_true', Bool.not_eq_false', Bool.false_eq_true, and_self, forall_const, ne_eq, not_false_eq_true, Nat.reduceEqDiff]
      refine ⟨fun hlt => ?_, fun hge => ?_⟩
      · have hil : i < l.length := by omega
        have hc : chkF (l.getD i default) = 0 := hall _ (getD_mem hil)
        obtain ⟨t1, hc100, _⟩ := chk_iv0 hc hk
        obtain ⟨u1, _, _⟩ := uq_iv hc
        refine ⟨⟨by omega, hlt⟩, (l.getD i default).parts, ⟨⟨rfl, fun _ _ => rfl⟩, hc100⟩, u1, (l.getD i default).parts, ⟨⟨rfl, fun _ _ => rfl⟩, hc100⟩, t1, by decide, ⟨by simp only [capOk]; omega, fun k hk => ?_⟩, i + 1, by omega, by omega, ?_⟩
        · match k, hk with
          | 0, _ => exact ⟨rfl, trivial, trivial, trivial⟩
        · have hw := w_succ (i := i) (n := l.length) (by omega) (by omega)
          rw [sum_succ hil]
          simp only [hw, leS_mk, leL_cons, leL_nil, le_junk, le_int, le_bool, le_nil, leLL_nil, leLL_cons, leH_cons, leH_nil, leH1_box, leH1_own, leH1_gone, le_vs, le_agg, le_tup, le_ptr, le_own, le_xp, le_fn, le_opt, le_val, le_elem, le_nil_own, le_nil_vs, leH_ghost, leL_chunk, leXL_id, bnd_int, bnd_bool, bnd_val, bnd_nil, bnd_junk, bnd_vs, bnd_xp, bnd_agg, bnd_tup, bnd_ptr, bnd_own, bnd_elem, bnd_fn, bnd_iface, bnd_opt, bndL_nil, bndL_cons, lenH_cons, lenH_nil, imp_self, implies_true, true_and, and_true]
          refine ⟨by simp, ?_⟩
          simp [tous, uq, w6]
          refine ⟨leL_self _ ⟨trivial, trivial⟩, ?_⟩
          · intro q hq
            rcases Nat.lt_or_ge q i with h' | h'
            · rw [if_pos h']; exact leL_self _ ⟨trivial, trivial, trivial⟩
            · obtain rfl : q = i := by omega
              rw [if_neg (by omega), Nat.sub_self, Nat.zero_mul]
              exact ⟨⟨rfl, rfl⟩, ⟨rfl, rfl⟩, trivial⟩
      · have hil : i = l.length := by omega
        subst hil
        have hr : coupF l key = (l.map (fun c => ivs c key), sumF l, 0) := by rw [coupF, if_neg (by rw [he]; simp)]
        rw [hr] at h
        refine ans_le (show k _ [] from h) ?_ ?_
        · rw [take_full (Nat.le_refl _)]
          dsimp only [expo, enc2, r_end, r_end1, r_nil, r_op, r_opg, r_runOp, r_op0, r_yld0, r_yld1, r_y, r_rbeg, r_rend, r_rend1, r_rfrm, r_rfrm1, r_range, r_rangeK, r_rangeE, r_draw, r_dnil, r_dop, r_dopg, r_dplq, r_dplh, r_dq, r_dq0, r_dcl1, r_dcl0, r_dct1, r_dct0, r_dgd, r_dgq1, r_dgq0, r_dctG, r_op1, r_eff, r_eff0, r_call, r_call0, r_inl, r_g, r_gq, r_gc, r_effg, r_effg0, r_callg, r_callg0, r_fin, r_pre, r_imp, r_all, r_ex, r_fing, r_preg, r_exg, r_inBlock, r_inLoop, r_frame, r_frame1, r_skip, r_region, r_seq, r_cond, r_cond1, r_block, r_exit, r_exit1, r_exit2, r_ret, r_loop, s_args0, s_args1, s_xt, s_xc, padL, blankL, callee, callArgs, eff, ctOf, getL, setL, S.put, S.upd, unopts, unopt, unoptsO, unoptsB, lazyO, guardOf, gbool, eMov, eNot, eNeg, eConv, eExt, eLenArr, eLen, eLenStr, eEqb, eEqv, allEq, eNil, negIf, eBool2, eCmp, eAri, ari, eBit, eDiv, eSh, eMinMax, foldMin, foldMax, kEq, pure1, cmpB, VO.quiet, resVals, resVal, tupled, popRet, popTo, cond, Option.bind, Option.map, eNew, eBox, asCells, lenH, snocH, eFieldAddr, eField, eLoad, cellsAt, getH, setH, dropL, takeL, mkAgg, lenL, lenS, shift, shiftL, shiftH, viewN, viewL, view, andT, junks, List.append_nil, Nat.beq, eIdxAddr, eIdxArr, eIndex, eStore, storeAt, spliceL, ones, one, eSlice, eSliceArr, bounds, subLo, addLo, eMake, eAppend, readS, repL, buildCells, chunk, purgeL, purgeLL, purgeH, purge, refs, refsL, List.cons_append, List.nil_append, wrOps, wrAl, wrDops, wrC, junkAt, putAll, putHs, headOf, headK, keepG, List.append_eq, headX, chkP, apartP, apartB, blk, strip, runAl, yld, putPs, lenN, findR, notRound, jumpK, jumpPT, jcode, List.map_cons, List.map_nil, ite_self, reduceIte]
          simp only [leS_mk, leL_cons, leL_nil, le_junk, le_int, le_bool, le_nil, leLL_nil, leLL_cons, leH_cons, leH_nil, leH1_box, leH1_own, leH1_gone, le_vs, le_agg, le_tup, le_ptr, le_own, le_xp, le_fn, le_opt, le_val, le_elem, le_nil_own, le_nil_vs, leH_ghost, leL_chunk, leXL_id, bnd_int, bnd_bool, bnd_val, bnd_nil, bnd_junk, bnd_vs, bnd_xp, bnd_agg, bnd_tup, bnd_ptr, bnd_own, bnd_elem, bnd_fn, bnd_iface, bnd_opt, bndL_nil, bndL_cons, lenH_cons, lenH_nil, imp_self, implies_true, true_and, and_true]
          refine ⟨by simp, by simp, fun q hq => leXL_eq ?_⟩
          simp [hq]
        · simp [freshS, freshL, enc2]
  · exact h.1.elim

theorem Coup23 : coupC.ok Try.prog 23 := by
  refine contract Try.func23 v23_is G1_ok 800 coupC fun args k h => ?_
  simp only [coupC] at h
  split at h
  · rename_i tt z n sz get key
    obtain ⟨l, ⟨rfl, rfl, hg⟩, h⟩ := h
    refine ⟨[.vs tt z l.length 3 (fun k => encC (l.getD k default)), .int .i64 key], by simpa [leL, le] using hg, ?_⟩
    dsimp only [v23, G1_ct41, rwhoC, G1_ct37, inC, encC, enc, r_end, r_end1, r_nil, r_op, r_opg, r_runOp, r_op0, r_yld0, r_yld1, r_y, r_rbeg, r_rend, r_rend1, r_rfrm, r_rfrm1, r_range, r_rangeK, r_rangeE, r_draw, r_dnil, r_dop, r_dopg, r_dplq, r_dplh, r_dq, r_dq0, r_dcl1, r_dcl0, r_dct1, r_dct0, r_dgd, r_dgq1, r_dgq0, r_dctG, r_op1, r_eff, r_eff0, r_call, r_call0, r_inl, r_g, r_gq, r_gc, r_effg, r_effg0, r_callg, r_callg0, r_fin, r_pre, r_imp, r_all, r_ex, r_fing, r_preg, r_exg, r_inBlock, r_inLoop, r_frame, r_frame1, r_skip, r_region, r_seq, r_cond, r_cond1, r_block, r_exit, r_exit1, r_exit2, r_ret, r_loop, s_args0, s_args1, s_xt, s_xc, padL, blankL, callee, callArgs, eff, ctOf, getL, setL, S.put, S.upd, unopts, unopt, unoptsO, unoptsB, lazyO, guardOf, gbool, eMov, eNot, eNeg, eConv, eExt, eLenArr, eLen, eLenStr, eEqb, eEqv, allEq, eNil, negIf, eBool2, eCmp, eAri, ari, eBit, eDiv, eSh, eMinMax, foldMin, foldMax, kEq, pure1, cmpB, VO.quiet, resVals, resVal, tupled, popRet, popTo, cond, Option.bind, Option.map, eNew, eBox, asCells, lenH, snocH, eFieldAddr, eField, eLoad, cellsAt, getH, setH, dropL, takeL, mkAgg, lenL, lenS, shift, shiftL, shiftH, viewN, viewL, view, andT, junks, List.append_nil, Nat.beq, eIdxAddr, eIdxArr, eIndex, eStore, storeAt, spliceL, ones, one, eSlice, eSliceArr, bounds, subLo, addLo, eMake, eAppend, readS, repL, buildCells, chunk, purgeL, purgeLL, purgeH, purge, refs, refsL, List.cons_append, List.nil_append, wrOps, wrAl, wrDops, wrC, junkAt, putAll, putHs, headOf, headK, keepG, List.append_eq, headX, chkP, apartP, apartB, blk, strip, runAl, yld, putPs, lenN, findR, notRound, jumpK, jumpPT, jcode, List.map_cons, List.map_nil, ite_self, reduceIte]
    simp only [true_and, and_true, imp_self, implies_true, decide_eq_true_eq, decide_eq_false_iff_not, Nat.reduceAdd, Nat.reduceLeDiff, Bool.not_not, reduceCtorEq, false_imp_iff, Bool.not_eq_true', Bool.not_eq_false', Bool.false_eq_true, and_self, forall_const, ne_eq, not_false_eq_true, Nat.reduceEqDiff]
    refine ⟨l, ⟨rfl, rfl, fun k _ => leXL_self _⟩, fun hb => ⟨fun _ => ?_, fun h20 => absurd h20 (by decide)⟩, fun hb => ⟨fun h0 => ?_, fun h0 => ?_⟩⟩
    · have hr : coupF l key = ([], (0, 0), 2) := by rw [coupF, whole1_t hb, if_pos (by decide)]
      rw [hr] at h
      refine ans_le (show k _ [] from h) ?_ ?_
      · simp [expo, view, viewL, le, leL]
      · simp [freshS, freshL]
    · have hr : coupF l key = ([], (0, 0), rwholeF l) := by rw [coupF, whole_e h0, if_pos h0]
      rw [hr] at h
      refine ans_le (show k _ [] from h) ?_ ?_
      · simp [expo, view, viewL, le, leL]
      · simp [freshS, freshL]
    have he := whole1_f h0 hb
    obtain ⟨h16, hall, hns⟩ := wholeF_ok he
    have hk := hns key (by simp)
    refine Loop.keep [0, 0, 2, 0, 0, 1, 0, 0] Nat (fun i => [(8, .own 2 0 i 2), (10, .int .i64 i)]) (fun i => [(2, .own (decide (i = 0)) 2 i (fun k => enc2 (ivs (l.getD k default) key))), (1, .box (enc2 (sumF (l.take i))))]) [.gone]
      (fun i => i ≤ l.length) (fun i => l.length - i) ?_ ?_
    · refine ⟨0, Nat.zero_le _, ?_⟩
      dsimp only [enc2, sumF, List.take_zero, List.foldl_nil, r_end, r_end1, r_nil, r_op, r_opg, r_runOp, r_op0, r_yld0, r_yld1, r_y, r_rbeg, r_rend, r_rend1, r_rfrm, r_rfrm1, r_range, r_rangeK, r_rangeE, r_draw, r_dnil, r_dop, r_dopg, r_dplq, r_dplh, r_dq, r_dq0, r_dcl1, r_dcl0, r_dct1, r_dct0, r_dgd, r_dgq1, r_dgq0, r_dctG, r_op1, r_eff, r_eff0, r_call, r_call0, r_inl, r_g, r_gq, r_gc, r_effg, r_effg0, r_callg, r_callg0, r_fin, r_pre, r_imp, r_all, r_ex, r_fing, r_preg, r_exg, r_inBlock, r_inLoop, r_frame, r_frame1, r_skip, r_region, r_seq, r_cond, r_cond1, r_block, r_exit, r_exit1, r_exit2, r_ret, r_loop, s_args0, s_args1, s_xt, s_xc, padL, blankL, callee, callArgs, eff, ctOf, getL, setL, S.put, S.upd, unopts, unopt, unoptsO, unoptsB, lazyO, guardOf, gbool, eMov, eNot, eNeg, eConv, eExt, eLenArr, eLen, eLenStr, eEqb, eEqv, allEq, eNil, negIf, eBool2, eCmp, eAri, ari, eBit, eDiv, eSh, eMinMax, foldMin, foldMax, kEq, pure1, cmpB, VO.quiet, resVals, resVal, tupled, popRet, popTo, cond, Option.bind, Option.map, eNew, eBox, asCells, lenH, snocH, eFieldAddr, eField, eLoad, cellsAt, getH, setH, dropL, takeL, mkAgg, lenL, lenS, shift, shiftL, shiftH, viewN, viewL, view, andT, junks, List.append_nil, Nat.beq, eIdxAddr, eIdxArr, eIndex, eStore, storeAt, spliceL, ones, one, eSlice, eSliceArr, bounds, subLo, addLo, eMake, eAppend, readS, repL, buildCells, chunk, purgeL, purgeLL, purgeH, purge, refs, refsL, List.cons_append, List.nil_append, wrOps, wrAl, wrDops, wrC, junkAt, putAll, putHs, headOf, headK, keepG, List.append_eq, headX, chkP, apartP, apartB, blk, strip, runAl, yld, putPs, lenN, findR, notRound, jumpK, jumpPT, jcode, List.map_cons, List.map_nil, ite_self, reduceIte]
      simp only [leS_mk, leL_cons, leL_nil, le_junk, le_int, le_bool, le_nil, leLL_nil, leLL_cons, leH_cons, leH_nil, leH1_box, leH1_own, leH1_gone, le_vs, le_agg, le_tup, le_ptr, le_own, le_xp, le_fn, le_opt, le_val, le_elem, le_nil_own, le_nil_vs, leH_ghost, leL_chunk, leXL_id, bnd_int, bnd_bool, bnd_val, bnd_nil, bnd_junk, bnd_vs, bnd_xp, bnd_agg, bnd_tup, bnd_ptr, bnd_own, bnd_elem, bnd_fn, bnd_iface, bnd_opt, bndL_nil, bndL_cons, lenH_cons, lenH_nil, imp_self, implies_true, true_and, and_true]
      simp
    · rintro i hi
      dsimp only [G1_ct43, touC, G1_ct32, travC, G1_ct31, rivC, encC, enc, encQ, enc2, Int.toNat_natCast, r_end, r_end1, r_nil, r_op, r_opg, r_runOp, r_op0, r_yld0, r_yld1, r_y, r_rbeg, r_rend, r_rend1, r_rfrm, r_rfrm1, r_range, r_rangeK, r_rangeE, r_draw, r_dnil, r_dop, r_dopg, r_dplq, r_dplh, r_dq, r_dq0, r_dcl1, r_dcl0, r_dct1, r_dct0, r_dgd, r_dgq1, r_dgq0, r_dctG, r_op1, r_eff, r_eff0, r_call, r_call0, r_inl, r_g, r_gq, r_gc, r_effg, r_effg0, r_callg, r_callg0, r_fin, r_pre, r_imp, r_all, r_ex, r_fing, r_preg, r_exg, r_inBlock, r_inLoop, r_frame, r_frame1, r_skip, r_region, r_seq, r_cond, r_cond1, r_block, r_exit, r_exit1, r_exit2, r_ret, r_loop, s_args0, s_args1, s_xt, s_xc, padL, blankL, callee, callArgs, eff, ctOf, getL, setL, S.put, S.upd, unopts, unopt, unoptsO, unoptsB, lazyO, guardOf, gbool, eMov, eNot, eNeg, eConv, eExt, eLenArr, eLen, eLenStr, eEqb, eEqv, allEq, eNil, negIf, eBool2, eCmp, eAri, ari, eBit, eDiv, eSh, eMinMax, foldMin, foldMax, kEq, pure1, cmpB, VO.quiet, resVals, resVal, tupled, popRet, popTo, cond, Option.bind, Option.map, eNew, eBox, asCells, lenH, snocH, eFieldAddr, eField, eLoad, cellsAt, getH, setH, dropL, takeL, mkAgg, lenL, lenS, shift, shiftL, shiftH, viewN, viewL, view, andT, junks, List.append_nil, Nat.beq, eIdxAddr, eIdxArr, eIndex, eStore, storeAt, spliceL, ones, one, eSlice, eSliceArr, bounds, subLo, addLo, eMake, eAppend, readS, repL, buildCells, chunk, purgeL, purgeLL, purgeH, purge, refs, refsL, List.cons_append, List.nil_append, wrOps, wrAl, wrDops, wrC, junkAt, putAll, putHs, headOf, headK, keepG, List.append_eq, headX, chkP, apartP, apartB, blk, strip, runAl, yld, putPs, lenN, findR, notRound, jumpK, jumpPT, jcode, List.map_cons, List.map_nil, ite_self, reduceIte]
      simp only [true_and, and_true, imp_self, implies_true, decide_eq_true_eq, decide_eq_false_iff_not, Nat.reduceAdd, Nat.reduceLeDiff, Bool.not_not, reduceCtorEq, false_imp_iff, Bool.not_eq_true', Bool.not_eq_false', Bool.false_eq_true, and_self, forall_const, ne_eq, not_false_eq_true, Nat.reduceEqDiff]
      dsimp only [G1_ct43, touC, G1_ct32, travC, G1_ct31, rivC, encC, enc, encQ, enc2, Int.toNat_natCast, r_end, r_end1, r_nil, r_op, r_opg, r_runOp, r_op0, r_yld0, r_yld1, r_y, r_rbeg, r_rend, r_rend1, r_rfrm, r_rfrm1, r_range, r_rangeK, r_rangeE, r_draw, r_dnil, r_dop, r_dopg, r_dplq, r_dplh, r_dq, r_dq0, r_dcl1, r_dcl0, r_dct1, r_dct0, r_dgd, r_dgq1, r_dgq0, r_dctG, r_op1, r_eff, r_eff0, r_call, r_call0, r_inl, r_g, r_gq, r_gc, r_effg, r_effg0, r_callg, r_callg0, r_fin, r_pre, r_imp, r_all, r_ex, r_fing, r_preg, r_exg, r_inBlock, r_inLoop, r_frame, r_frame1, r_skip, r_region, r_seq, r_cond, r_cond1, r_block, r_exit, r_exit1, r_exit2, r_ret, r_loop, s_args0, s_args1, s_xt, s_xc, padL, blankL, callee, callArgs, eff, ctOf, getL, setL, S.put, S.upd, unopts, unopt, unoptsO, unoptsB, lazyO, guardOf, gbool, eMov, eNot, eNeg, eConv, eExt, eLenArr, eLen, eLenStr, eEqb, eEqv, allEq, eNil, negIf, eBool2, eCmp, eAri, ari, eBit, eDiv, eSh, eMinMax, foldMin, foldMax, kEq, pure1, cmpB, VO.quiet, resVals, resVal, tupled, popRet, popTo, cond, Option.bind, Option.map, eNew, eBox, asCells, lenH, snocH, eFieldAddr, eField, eLoad, cellsAt, getH, setH, dropL, takeL, mkAgg, lenL, lenS, shift, shiftL, shiftH, viewN, viewL, view, andT, junks, List.append_nil, Nat.beq, eIdxAddr, eIdxArr, eIndex, eStore, storeAt, spliceL, ones, one, eSlice, eSliceArr, bounds, subLo, addLo, eMake, eAppend, readS, repL, buildCells, chunk, purgeL, purgeLL, purgeH, purge, refs, refsL, List.cons_append, List.nil_append, wrOps, wrAl, wrDops, wrC, junkAt, putAll, putHs, headOf, headK, keepG, List.append_eq, headX, chkP, apartP, apartB, blk, strip, runAl, yld, putPs, lenN, findR, notRound, jumpK, jumpPT, jcode, List.map_cons, List.map_nil, ite_self, reduceIte]
      simp only [true_and, and_true, imp_self, implies_true, decide_eq_true_eq, decide_eq_false_iff_not, Nat.reduceAdd, Nat.reduceLeDiff, Bool.not_not, reduceCtorEq, false_imp_iff, Bool.not_eq_true', Bool.not_eq_false', Bool.false_eq_true, and_self, forall_const, ne_eq, not_false_eq_true, Nat.reduceEqDiff]
      refine ⟨fun hlt => ?_, fun hge => ?_⟩
      · have hil : i < l.length := by omega
        have hc : chkF (l.getD i default) = 0 := hall _ (getD_mem hil)
        obtain ⟨t1, hc100, t3⟩ := chk_iv0 hc hk
        obtain ⟨u1, _, u3⟩ := uq_iv hc
        refine ⟨⟨by omega, hlt⟩, (l.getD i default).parts, ⟨⟨rfl, fun _ _ => rfl⟩, hc100⟩, t1, by decide, ⟨by simp only [capOk]; omega, fun k hk => ?_⟩, ⟨by omega, hlt⟩, (l.getD i default).parts, ⟨⟨rfl, fun _ _ => rfl⟩, hc100⟩, u1, i + 1, by omega, by omega, ?_⟩
        · match k, hk with
          | 0, _ => exact ⟨rfl, trivial, trivial, trivial⟩
        · have hw := w_succ (i := i) (n := l.length) (by omega) (by omega)
          rw [sum_succ hil]
          rw [tq] at t3
          rw [uq] at u3
          simp only [hw, leS_mk, leL_cons, leL_nil, le_junk, le_int, le_bool, le_nil, leLL_nil, leLL_cons, leH_cons, leH_nil, leH1_box, leH1_own, leH1_gone, le_vs, le_agg, le_tup, le_ptr, le_own, le_xp, le_fn, le_opt, le_val, le_elem, le_nil_own, le_nil_vs, leH_ghost, leL_chunk, leXL_id, bnd_int, bnd_bool, bnd_val, bnd_nil, bnd_junk, bnd_vs, bnd_xp, bnd_agg, bnd_tup, bnd_ptr, bnd_own, bnd_elem, bnd_fn, bnd_iface, bnd_opt, bndL_nil, bndL_cons, lenH_cons, lenH_nil, imp_self, implies_true, true_and, and_true]
          refine ⟨by simp, ?_⟩
          simp only [tous, uq, w6, u3]
          simp
          · intro q hq
            rcases Nat.lt_or_ge q i with h' | h'
            · rw [if_pos h']; exact leL_self _ ⟨trivial, trivial, trivial⟩
            · obtain rfl : q = i := by omega
              rw [if_neg (by omega), Nat.sub_self, Nat.zero_mul]
              exact ⟨⟨rfl, rfl⟩, ⟨rfl, t3.symm⟩, trivial⟩
      · have hil : i = l.length := by omega
        subst hil
        have hr : coupF l key = (l.map (fun c => ivs c key), sumF l, 0) := by rw [coupF, if_neg (by rw [he]; simp)]
        rw [hr] at h
        refine ans_le (show k _ [] from h) ?_ ?_
        · rw [take_full (Nat.le_refl _)]
          dsimp only [expo, enc2, r_end, r_end1, r_nil, r_op, r_opg, r_runOp, r_op0, r_yld0, r_yld1, r_y, r_rbeg, r_rend, r_rend1, r_rfrm, r_rfrm1, r_range, r_rangeK, r_rangeE, r_draw, r_dnil, r_dop, r_dopg, r_dplq, r_dplh, r_dq, r_dq0, r_dcl1, r_dcl0, r_dct1, r_dct0, r_dgd, r_dgq1, r_dgq0, r_dctG, r_op1, r_eff, r_eff0, r_call, r_call0, r_inl, r_g, r_gq, r_gc, r_effg, r_effg0, r_callg, r_callg0, r_fin, r_pre, r_imp, r_all, r_ex, r_fing, r_preg, r_exg, r_inBlock, r_inLoop, r_frame, r_frame1, r_skip, r_region, r_seq, r_cond, r_cond1, r_block, r_exit, r_exit1, r_exit2, r_ret, r_loop, s_args0, s_args1, s_xt, s_xc, padL, blankL, callee, callArgs, eff, ctOf, getL, setL, S.put, S.upd, unopts, unopt, unoptsO, unoptsB, lazyO, guardOf, gbool, eMov, eNot, eNeg, eConv, eExt, eLenArr, eLen, eLenStr, eEqb, eEqv, allEq, eNil, negIf, eBool2, eCmp, eAri, ari, eBit, eDiv, eSh, eMinMax, foldMin, foldMax, kEq, pure1, cmpB, VO.quiet, resVals, resVal, tupled, popRet, popTo, cond, Option.bind, Option.map, eNew, eBox, asCells, lenH, snocH, eFieldAddr, eField, eLoad, cellsAt, getH, setH, dropL, takeL, mkAgg, lenL, lenS, shift, shiftL, shiftH, viewN, viewL, view, andT, junks, List.append_nil, Nat.beq, eIdxAddr, eIdxArr, eIndex, eStore, storeAt, spliceL, ones, one, eSlice, eSliceArr, bounds, subLo, addLo, eMake, eAppend, readS, repL, buildCells, chunk, purgeL, purgeLL, purgeH, purge, refs, refsL, List.cons_append, List.nil_append, wrOps, wrAl, wrDops, wrC, junkAt, putAll, putHs, headOf, headK, keepG, List.append_eq, headX, chkP, apartP, apartB, blk, strip, runAl, yld, putPs, lenN, findR, notRound, jumpK, jumpPT, jcode, List.map_cons, List.map_nil, ite_self, reduceIte]
          simp only [leS_mk, leL_cons, leL_nil, le_junk, le_int, le_bool, le_nil, leLL_nil, leLL_cons, leH_cons, leH_nil, leH1_box, leH1_own, leH1_gone, le_vs, le_agg, le_tup, le_ptr, le_own, le_xp, le_fn, le_opt, le_val, le_elem, le_nil_own, le_nil_vs, leH_ghost, leL_chunk, leXL_id, bnd_int, bnd_bool, bnd_val, bnd_nil, bnd_junk, bnd_vs, bnd_xp, bnd_agg, bnd_tup, bnd_ptr, bnd_own, bnd_elem, bnd_fn, bnd_iface, bnd_opt, bndL_nil, bndL_cons, lenH_cons, lenH_nil, imp_self, implies_true, true_and, and_true]
          refine ⟨by simp, by simp, fun q hq => leXL_eq ?_⟩
          simp [hq]
        · simp [freshS, freshL, enc2]
  · exact h.1.elim
end Go.Proofs.Ytmhlinndhmdjlaa
