/- Trackers: checks and fractions. -/
import Derived.Test.YtmhlinndhmdjlaaS
import Derived.Test.YtmhlinndhmdjlaaVx14
import Derived.IntWalk
import Derived.Test.YtmhlinndhmdjlaaProg
set_option linter.all false
namespace Go.Proofs.Ytmhlinndhmdjlaa
open Go Go.Vx
set_option maxRecDepth 100000

def enc (p : Part) : List SV := [.int .i64 p.num, .int .i64 p.den, .int .i64 p.play, .int .i64 p.weight]
def encQ (q : Q) : List SV := [.int .i64 q.num, .int .i64 q.den]
def noC : CRes := .pre False (.fin .junk [])

def v36 : VF := { ntmps := 15, res := [.tmp 6], body :=
 (.seq (.region [⟨(some 6), none, .mov, [.cn (.bool false)]⟩])
 (.seq (.region [⟨(some 7), none, .mov, [.tm 0]⟩,
  ⟨(some 8), none, .mov, [.tm 1]⟩,
  ⟨(some 9), none, (.cmp .geq), [.tm 7, .tm 8]⟩,
  ⟨(some 10), none, .mov, [.tm 9]⟩,
  ⟨(some 11), (some (10, true)), .mov, [.tm 0]⟩,
  ⟨(some 12), (some (10, true)), .mov, [.tm 2]⟩,
  ⟨(some 13), (some (10, true)), (.cmp .leq), [.tm 11, .tm 12]⟩,
  ⟨(some 14), none, .and, [.tm 10, .tm 13]⟩,
  ⟨(some 6), none, .mov, [.tm 14]⟩])
 .ret)) }
theorem v36_is : vfunc Try.prog Try.f36 = some v36 := by kernel_rfl
def v37 : VF := { ntmps := 15, res := [.tmp 6], body :=
 (.seq (.region [⟨(some 6), none, .mov, [.cn (.bool false)]⟩])
 (.seq (.region [⟨(some 7), none, .mov, [.tm 0]⟩,
  ⟨(some 8), none, .mov, [.tm 1]⟩,
  ⟨(some 9), none, (.cmp .geq), [.tm 7, .tm 8]⟩,
  ⟨(some 10), none, .mov, [.tm 9]⟩,
  ⟨(some 11), (some (10, true)), .mov, [.tm 0]⟩,
  ⟨(some 12), (some (10, true)), .mov, [.tm 2]⟩,
  ⟨(some 13), (some (10, true)), (.cmp .leq), [.tm 11, .tm 12]⟩,
  ⟨(some 14), none, .and, [.tm 10, .tm 13]⟩,
  ⟨(some 6), none, .mov, [.tm 14]⟩])
 .ret)) }
theorem v37_is : vfunc Try.prog Try.f37 = some v37 := by kernel_rfl
def v13 : VF := { ntmps := 49, res := [.tmp 2], body :=
 (.seq (.region [⟨(some 1), none, .box, [.tm 0]⟩,
  ⟨(some 2), none, .mov, [.cn (.int .i64 0)]⟩])
 (.seq (.seq (.region [⟨(some 6), none, (.fieldAddr 0), [.tm 1]⟩,
  ⟨(some 7), none, (.load false 1), [.tm 6]⟩,
  ⟨(some 8), none, .len, [.tm 7]⟩,
  ⟨(some 9), none, (.cmp .gtr), [.tm 8, .cn (.int .i64 8)]⟩])
 (.cond (.tm 9) (.seq (.region [⟨(some 2), none, .mov, [.cn (.int .i64 3)]⟩])
 .ret)
  .skip))
 (.seq (.region [⟨(some 10), none, (.fieldAddr 1), [.tm 1]⟩,
  ⟨(some 11), none, (.load false 1), [.tm 10]⟩,
  ⟨(some 12), none, (.call 36), [.tm 11, .cn (.int .i64 0), .cn (.int .i64 100000)]⟩,
  ⟨(some 13), none, .mov, [.tm 12]⟩,
  ⟨(some 14), (some (13, true)), (.fieldAddr 2), [.tm 1]⟩,
  ⟨(some 15), (some (13, true)), (.load false 1), [.tm 14]⟩,
  ⟨(some 16), (some (13, true)), (.call 36), [.tm 15, .cn (.int .i64 1), .cn (.int .i64 5000)]⟩,
  ⟨(some 17), none, .and, [.tm 13, .tm 16]⟩,
  ⟨(some 3), none, .mov, [.tm 17]⟩])
 (.seq (.seq (.region [⟨(some 18), none, (.fieldAddr 0), [.tm 1]⟩,
  ⟨(some 19), none, (.load false 1), [.tm 18]⟩,
  ⟨(some 20), none, .len, [.tm 19]⟩,
  ⟨(some 21), none, .mov, [.cn (.int .i64 0)]⟩])
 (.block 0 (.loop (.seq (.region [⟨(some 22), none, (.cmp .lss), [.tm 21, .tm 20]⟩])
 (.seq (.cond (.tm 22) .skip
  (.exit 0))
 (.seq (.block 1 (.seq (.region [⟨(some 23), none, (.idxAddr 4), [.tm 19, .tm 21]⟩,
  ⟨(some 24), none, (.load true 4), [.tm 23]⟩,
  ⟨(some 5), none, (.alloc [(.int .i64 0), (.int .i64 0), (.int .i64 0), (.int .i64 0)]), []⟩,
  ⟨none, none, (.store 4), [.tm 5, .tm 24]⟩])
 (.region [⟨(some 25), none, .mov, [.tm 3]⟩,
  ⟨(some 26), none, .mov, [.tm 25]⟩,
  ⟨(some 27), (some (26, true)), (.fieldAddr 0), [.tm 5]⟩,
  ⟨(some 28), (some (26, true)), (.load false 1), [.tm 27]⟩,
  ⟨(some 29), (some (26, true)), (.call 36), [.tm 28, .cn (.int .i64 1), .cn (.int .i64 12)]⟩,
  ⟨(some 30), none, .and, [.tm 26, .tm 29]⟩,
  ⟨(some 31), none, .mov, [.tm 30]⟩,
  ⟨(some 32), (some (31, true)), (.fieldAddr 1), [.tm 5]⟩,
  ⟨(some 33), (some (31, true)), (.load false 1), [.tm 32]⟩,
  ⟨(some 34), (some (31, true)), (.call 36), [.tm 33, .cn (.int .i64 1), .cn (.int .i64 12)]⟩,
  ⟨(some 35), none, .and, [.tm 31, .tm 34]⟩,
  ⟨(some 36), none, .mov, [.tm 35]⟩,
  ⟨(some 37), (some (36, true)), (.fieldAddr 2), [.tm 5]⟩,
  ⟨(some 38), (some (36, true)), (.load false 1), [.tm 37]⟩,
  ⟨(some 39), (some (36, true)), (.call 36), [.tm 38, .cn (.int .i64 0), .cn (.int .i64 5000)]⟩,
  ⟨(some 40), none, .and, [.tm 36, .tm 39]⟩,
  ⟨(some 41), none, .mov, [.tm 40]⟩,
  ⟨(some 42), (some (41, true)), (.fieldAddr 3), [.tm 5]⟩,
  ⟨(some 43), (some (41, true)), (.load false 1), [.tm 42]⟩,
  ⟨(some 44), (some (41, true)), (.call 36), [.tm 43, .cn (.int .i64 0), .cn (.int .i64 10000)]⟩,
  ⟨(some 45), none, .and, [.tm 41, .tm 44]⟩,
  ⟨(some 3), none, .mov, [.tm 45]⟩])))
 (.region [⟨(some 46), none, (.ari .add), [.tm 21, .cn (.int .i64 1)]⟩,
  ⟨(some 21), none, .mov, [.tm 46]⟩])))))))
 (.seq (.seq (.region [⟨(some 47), none, .mov, [.tm 3]⟩,
  ⟨(some 48), none, .not, [.tm 47]⟩])
 (.cond (.tm 48) (.seq (.region [⟨(some 2), none, .mov, [.cn (.int .i64 2)]⟩])
 .ret)
  .skip))
 (.seq (.region [⟨(some 2), none, .mov, [.cn (.int .i64 0)]⟩])
 .ret)))))) }
theorem v13_is : vfunc Try.prog Try.f13 = some v13 := by kernel_rfl
def v14 : VF := { ntmps := 53, res := [.tmp 2], body :=
 (.seq (.region [⟨(some 1), none, .box, [.tm 0]⟩,
  ⟨(some 2), none, .mov, [.cn (.int .i64 0)]⟩])
 (.seq (.seq (.region [⟨(some 5), none, (.fieldAddr 0), [.tm 1]⟩,
  ⟨(some 6), none, (.load false 1), [.tm 5]⟩,
  ⟨(some 7), none, .len, [.tm 6]⟩,
  ⟨(some 8), none, (.cmp .gtr), [.tm 7, .cn (.int .i64 8)]⟩])
 (.cond (.tm 8) (.seq (.region [⟨(some 2), none, .mov, [.cn (.int .i64 3)]⟩])
 .ret)
  .skip))
 (.seq (.seq (.region [⟨(some 3), none, .mov, [.cn (.int .i64 0)]⟩])
 (.block 0 (.loop (.seq (.seq (.region [⟨(some 9), none, .mov, [.tm 3]⟩,
  ⟨(some 10), none, (.fieldAddr 0), [.tm 1]⟩,
  ⟨(some 11), none, (.load false 1), [.tm 10]⟩,
  ⟨(some 12), none, .len, [.tm 11]⟩,
  ⟨(some 13), none, (.cmp .lss), [.tm 9, .tm 12]⟩])
 (.cond (.tm 13) .skip
  (.exit 0)))
 (.seq (.block 1 (.seq (.region [⟨(some 16), none, (.fieldAddr 0), [.tm 1]⟩,
  ⟨(some 17), none, (.load false 1), [.tm 16]⟩,
  ⟨(some 18), none, .mov, [.tm 3]⟩,
  ⟨(some 19), none, (.idxAddr 4), [.tm 17, .tm 18]⟩,
  ⟨(some 20), none, (.load true 4), [.tm 19]⟩,
  ⟨(some 4), none, (.alloc [(.int .i64 0), (.int .i64 0), (.int .i64 0), (.int .i64 0)]), []⟩,
  ⟨none, none, (.store 4), [.tm 4, .tm 20]⟩])
 (.seq (.region [⟨(some 21), none, (.fieldAddr 0), [.tm 4]⟩,
  ⟨(some 22), none, (.load false 1), [.tm 21]⟩,
  ⟨(some 23), none, (.call 37), [.tm 22, .cn (.int .i64 1), .cn (.int .i64 12)]⟩,
  ⟨(some 24), none, .not, [.tm 23]⟩,
  ⟨(some 25), none, .mov, [.tm 24]⟩,
  ⟨(some 26), (some (25, false)), (.fieldAddr 1), [.tm 4]⟩,
  ⟨(some 27), (some (25, false)), (.load false 1), [.tm 26]⟩,
  ⟨(some 28), (some (25, false)), (.call 37), [.tm 27, .cn (.int .i64 1), .cn (.int .i64 12)]⟩,
  ⟨(some 29), (some (25, false)), .not, [.tm 28]⟩,
  ⟨(some 30), none, .or, [.tm 25, .tm 29]⟩,
  ⟨(some 31), none, .mov, [.tm 30]⟩,
  ⟨(some 32), (some (31, false)), (.fieldAddr 2), [.tm 4]⟩,
  ⟨(some 33), (some (31, false)), (.load false 1), [.tm 32]⟩,
  ⟨(some 34), (some (31, false)), (.call 37), [.tm 33, .cn (.int .i64 0), .cn (.int .i64 5000)]⟩,
  ⟨(some 35), (some (31, false)), .not, [.tm 34]⟩,
  ⟨(some 36), none, .or, [.tm 31, .tm 35]⟩,
  ⟨(some 37), none, .mov, [.tm 36]⟩,
  ⟨(some 38), (some (37, false)), (.fieldAddr 3), [.tm 4]⟩,
  ⟨(some 39), (some (37, false)), (.load false 1), [.tm 38]⟩,
  ⟨(some 40), (some (37, false)), (.call 37), [.tm 39, .cn (.int .i64 0), .cn (.int .i64 10000)]⟩,
  ⟨(some 41), (some (37, false)), .not, [.tm 40]⟩,
  ⟨(some 42), none, .or, [.tm 37, .tm 41]⟩])
 (.cond (.tm 42) (.seq (.region [⟨(some 2), none, .mov, [.cn (.int .i64 2)]⟩])
 .ret)
  .skip))))
 (.region [⟨(some 14), none, .mov, [.tm 3]⟩,
  ⟨(some 15), none, (.ari .add), [.tm 14, .cn (.int .i64 1)]⟩,
  ⟨(some 3), none, .mov, [.tm 15]⟩]))))))
 (.seq (.seq (.region [⟨(some 43), none, (.fieldAddr 1), [.tm 1]⟩,
  ⟨(some 44), none, (.load false 1), [.tm 43]⟩,
  ⟨(some 45), none, (.call 37), [.tm 44, .cn (.int .i64 0), .cn (.int .i64 100000)]⟩,
  ⟨(some 46), none, .not, [.tm 45]⟩,
  ⟨(some 47), none, .mov, [.tm 46]⟩,
  ⟨(some 48), (some (47, false)), (.fieldAddr 2), [.tm 1]⟩,
  ⟨(some 49), (some (47, false)), (.load false 1), [.tm 48]⟩,
  ⟨(some 50), (some (47, false)), (.call 37), [.tm 49, .cn (.int .i64 1), .cn (.int .i64 5000)]⟩,
  ⟨(some 51), (some (47, false)), .not, [.tm 50]⟩,
  ⟨(some 52), none, .or, [.tm 47, .tm 51]⟩])
 (.cond (.tm 52) (.seq (.region [⟨(some 2), none, .mov, [.cn (.int .i64 2)]⟩])
 .ret)
  .skip))
 (.seq (.region [⟨(some 2), none, .mov, [.cn (.int .i64 0)]⟩])
 .ret))))) }
theorem v14_is : vfunc Try.prog Try.f14 = some v14 := by kernel_rfl
def v44 : VF := { ntmps := 16, res := [.cell 4 true 2], body :=
 (.seq (.region [⟨(some 2), none, .box, [.tm 0]⟩,
  ⟨(some 4), none, (.alloc [(.int .i64 0), (.int .i64 0)]), []⟩])
 (.seq (.region [⟨(some 5), none, (.fieldAddr 0), [.tm 2]⟩,
  ⟨(some 6), none, (.load false 1), [.tm 5]⟩,
  ⟨(some 7), none, .mov, [.tm 1]⟩,
  ⟨(some 8), none, (.fieldAddr 1), [.tm 2]⟩,
  ⟨(some 9), none, (.load false 1), [.tm 8]⟩,
  ⟨(some 10), none, (.ari .mul), [.tm 7, .tm 9]⟩,
  ⟨(some 11), none, (.ari .sub), [.tm 6, .tm 10]⟩,
  ⟨(some 12), none, .max, [.cn (.int .i64 0), .tm 11]⟩,
  ⟨(some 13), none, (.fieldAddr 1), [.tm 2]⟩,
  ⟨(some 14), none, (.load false 1), [.tm 13]⟩,
  ⟨(some 15), none, (.build [(.int .i64 0), (.int .i64 0)] [(0, 1), (1, 1)]), [.tm 12, .tm 14]⟩,
  ⟨none, none, (.store 2), [.tm 4, .tm 15]⟩])
 .ret)) }
theorem v44_is : vfunc Try.prog Try.f44 = some v44 := by kernel_rfl
def v45 : VF := { ntmps := 16, res := [.cell 4 true 2], body :=
 (.seq (.region [⟨(some 2), none, .box, [.tm 0]⟩,
  ⟨(some 3), none, .box, [.tm 1]⟩,
  ⟨(some 4), none, (.alloc [(.int .i64 0), (.int .i64 0)]), []⟩])
 (.seq (.region [⟨(some 5), none, (.fieldAddr 0), [.tm 2]⟩,
  ⟨(some 6), none, (.load false 1), [.tm 5]⟩,
  ⟨(some 7), none, (.fieldAddr 0), [.tm 3]⟩,
  ⟨(some 8), none, (.load false 1), [.tm 7]⟩,
  ⟨(some 9), none, (.ari .mul), [.tm 6, .tm 8]⟩,
  ⟨(some 10), none, (.fieldAddr 1), [.tm 2]⟩,
  ⟨(some 11), none, (.load false 1), [.tm 10]⟩,
  ⟨(some 12), none, (.fieldAddr 1), [.tm 3]⟩,
  ⟨(some 13), none, (.load false 1), [.tm 12]⟩,
  ⟨(some 14), none, (.ari .mul), [.tm 11, .tm 13]⟩,
  ⟨(some 15), none, (.build [(.int .i64 0), (.int .i64 0)] [(0, 1), (1, 1)]), [.tm 9, .tm 14]⟩,
  ⟨none, none, (.store 2), [.tm 4, .tm 15]⟩])
 .ret)) }
theorem v45_is : vfunc Try.prog Try.f45 = some v45 := by kernel_rfl
def v34 : VF := { ntmps := 15, res := [.cell 4 true 2], body :=
 (.seq (.region [⟨(some 2), none, .box, [.tm 0]⟩,
  ⟨(some 4), none, (.alloc [(.int .i64 0), (.int .i64 0)]), []⟩])
 (.seq (.region [⟨(some 5), none, (.fieldAddr 0), [.tm 2]⟩,
  ⟨(some 6), none, (.load false 1), [.tm 5]⟩,
  ⟨(some 7), none, .mov, [.tm 1]⟩,
  ⟨(some 8), none, (.fieldAddr 1), [.tm 2]⟩,
  ⟨(some 9), none, (.load false 1), [.tm 8]⟩,
  ⟨(some 10), none, (.ari .mul), [.tm 7, .tm 9]⟩,
  ⟨(some 11), none, (.ari .add), [.tm 6, .tm 10]⟩,
  ⟨(some 12), none, (.fieldAddr 1), [.tm 2]⟩,
  ⟨(some 13), none, (.load false 1), [.tm 12]⟩,
  ⟨(some 14), none, (.build [(.int .i64 0), (.int .i64 0)] [(0, 1), (1, 1)]), [.tm 11, .tm 13]⟩,
  ⟨none, none, (.store 2), [.tm 4, .tm 14]⟩])
 .ret)) }
theorem v34_is : vfunc Try.prog Try.f34 = some v34 := by kernel_rfl
def v29 : VF := { ntmps := 18, res := [.cell 2 true 2], body :=
 (.seq (.region [⟨(some 1), none, .box, [.tm 0]⟩,
  ⟨(some 2), none, (.alloc [(.int .i64 0), (.int .i64 0)]), []⟩])
 (.seq (.draw [] [⟨⟨(some 3), none, (.fieldAddr 0), [.tm 1]⟩, []⟩,
  ⟨⟨(some 4), none, (.load false 1), [.tm 3]⟩, []⟩,
  ⟨⟨(some 5), none, (.fieldAddr 1), [.tm 1]⟩, []⟩,
  ⟨⟨(some 6), none, (.load false 1), [.tm 5]⟩, []⟩,
  ⟨⟨(some 7), none, .quo, [.tm 4, .tm 6]⟩, []⟩,
  ⟨⟨(some 8), none, (.fieldAddr 0), [.tm 1]⟩, []⟩,
  ⟨⟨(some 9), none, (.load false 1), [.tm 8]⟩, []⟩,
  ⟨⟨(some 10), none, (.fieldAddr 1), [.tm 1]⟩, []⟩,
  ⟨⟨(some 11), none, (.load false 1), [.tm 10]⟩, []⟩,
  ⟨⟨(some 12), none, (.ari .add), [.tm 9, .tm 11]⟩, []⟩,
  ⟨⟨(some 13), none, (.ari .sub), [.tm 12, .cn (.int .i64 1)]⟩, []⟩,
  ⟨⟨(some 14), none, (.fieldAddr 1), [.tm 1]⟩, []⟩,
  ⟨⟨(some 15), none, (.load false 1), [.tm 14]⟩, []⟩,
  ⟨⟨(some 16), none, .quo, [.tm 13, .tm 15]⟩, []⟩,
  ⟨⟨(some 17), none, (.build [(.int .i64 0), (.int .i64 0)] [(0, 1), (1, 1)]), [.tm 7, .tm 16]⟩, []⟩,
  ⟨⟨none, none, (.store 2), [.tm 2, .tm 17]⟩, []⟩])
 .ret)) }
theorem v29_is : vfunc Try.prog Try.f29 = some v29 := by kernel_rfl
def v31 : VF := { ntmps := 26, res := [.cell 2 true 2], body :=
 (.seq (.region [⟨(some 1), none, .box, [.tm 0]⟩,
  ⟨(some 2), none, (.alloc [(.int .i64 0), (.int .i64 0)]), []⟩])
 (.seq (.draw [(3, [(.int .i64 0), (.int .i64 0)])] [⟨⟨(some 4), none, (.fieldAddr 0), [.tm 1]⟩, []⟩,
  ⟨⟨(some 5), none, (.load false 1), [.tm 4]⟩, []⟩,
  ⟨⟨(some 6), none, (.fieldAddr 1), [.tm 1]⟩, []⟩,
  ⟨⟨(some 7), none, (.load false 1), [.tm 6]⟩, []⟩,
  ⟨⟨(some 8), none, .quo, [.tm 5, .tm 7]⟩, []⟩,
  ⟨⟨(some 9), none, (.fieldAddr 0), [.tm 1]⟩, []⟩,
  ⟨⟨(some 10), none, (.load false 1), [.tm 9]⟩, []⟩,
  ⟨⟨(some 11), none, (.fieldAddr 1), [.tm 1]⟩, []⟩,
  ⟨⟨(some 12), none, (.load false 1), [.tm 11]⟩, []⟩,
  ⟨⟨(some 13), none, .quo, [.tm 10, .tm 12]⟩, []⟩,
  ⟨⟨(some 14), none, (.build [(.int .i64 0), (.int .i64 0)] [(0, 1), (1, 1)]), [.tm 8, .tm 13]⟩, []⟩,
  ⟨⟨none, none, (.store 2), [.tm 3, .tm 14]⟩, []⟩])
 (.seq (.seq (.region [⟨(some 15), none, (.fieldAddr 0), [.tm 1]⟩,
  ⟨(some 16), none, (.load false 1), [.tm 15]⟩,
  ⟨(some 17), none, (.fieldAddr 1), [.tm 1]⟩,
  ⟨(some 18), none, (.load false 1), [.tm 17]⟩,
  ⟨(some 19), none, .rem, [.tm 16, .tm 18]⟩,
  ⟨(some 20), none, (.cmp .neq), [.tm 19, .cn (.int .i64 0)]⟩])
 (.cond (.tm 20) (.region [⟨(some 21), none, (.fieldAddr 1), [.tm 3]⟩,
  ⟨(some 22), none, (.load false 1), [.tm 21]⟩,
  ⟨(some 23), none, (.ari .add), [.tm 22, .cn (.int .i64 1)]⟩,
  ⟨(some 24), none, (.fieldAddr 1), [.tm 3]⟩,
  ⟨none, none, (.store 1), [.tm 24, .tm 23]⟩])
  .skip))
 (.seq (.region [⟨(some 25), none, (.load true 2), [.tm 3]⟩,
  ⟨none, none, (.store 2), [.tm 2, .tm 25]⟩])
 .ret)))) }
theorem v31_is : vfunc Try.prog Try.f31 = some v31 := by kernel_rfl


def inC : Ctr := { alias := false, of := fun l => match l with | [.int .i64 n, .int .i64 a, .int .i64 b] => .fin (.bool (inF n a b)) [] | _ => noC }
def E0 : Env := { ct := fun _ => none, fn := fun _ => none, meth := fun _ _ => none }
theorem E0_ok : EnvOk Try.prog E0 := by
  refine ⟨fun f c h => ?_, fun f vf h => ?_, fun _ _ => rfl, by kernel_rfl⟩
  · cases h
  · cases h


theorem in36 : inC.ok Try.prog 36 := by
  refine contract Try.func36 v36_is E0_ok 100 inC fun args k h => ⟨args, ?_⟩
  simp only [inC] at h
  split at h
  · refine ⟨by simp [leL, le], ?_⟩
    dsimp only [E0, v36, r_end, r_end1, r_nil, r_op, r_opg, r_runOp, r_op0, r_yld0, r_yld1, r_y, r_rbeg, r_rend, r_rend1, r_rfrm, r_rfrm1, r_range, r_rangeK, r_rangeE, r_draw, r_dnil, r_dop, r_dopg, r_dplq, r_dplh, r_dq, r_dq0, r_dcl1, r_dcl0, r_dct1, r_dct0, r_dgd, r_dgq1, r_dgq0, r_dctG, r_op1, r_eff, r_eff0, r_call, r_call0, r_inl, r_g, r_gq, r_gc, r_effg, r_effg0, r_callg, r_callg0, r_fin, r_pre, r_imp, r_all, r_ex, r_fing, r_preg, r_exg, r_inBlock, r_inLoop, r_frame, r_frame1, r_skip, r_region, r_seq, r_cond, r_cond1, r_block, r_exit, r_exit1, r_exit2, r_ret, r_loop, s_args0, s_args1, s_xt, s_xc, padL, blankL, callee, callArgs, eff, ctOf, getL, setL, S.put, S.upd, unopts, unopt, unoptsO, unoptsB, lazyO, guardOf, gbool, eMov, eNot, eNeg, eConv, eExt, eLenArr, eLen, eLenStr, eEqb, eEqv, allEq, eNil, negIf, eBool2, eCmp, eAri, ari, eBit, eDiv, eSh, eMinMax, foldMin, foldMax, kEq, pure1, cmpB, VO.quiet, resVals, resVal, tupled, popRet, popTo, cond, Option.bind, Option.map, eNew, eBox, asCells, lenH, snocH, eFieldAddr, eField, eLoad, cellsAt, getH, setH, dropL, takeL, mkAgg, lenL, lenS, shift, shiftL, shiftH, viewN, viewL, view, andT, junks, List.append_nil, Nat.beq, eIdxAddr, eIdxArr, eIndex, eStore, storeAt, spliceL, ones, one, eSlice, eSliceArr, bounds, subLo, addLo, eMake, eAppend, readS, repL, buildCells, chunk, purgeL, purgeLL, purgeH, purge, refs, refsL, List.cons_append, List.nil_append, wrOps, wrAl, wrDops, wrC, junkAt, putAll, putHs, headOf, headK, keepG, List.append_eq, headX, chkP, apartP, apartB, blk, strip, runAl, yld, putPs, lenN, findR, notRound, jumpK, jumpPT, jcode, List.map_cons, List.map_nil, ite_self, reduceIte]
    simp only [true_and, and_true, imp_self, implies_true, decide_eq_true_eq, decide_eq_false_iff_not, Nat.reduceAdd, Nat.reduceLeDiff, Bool.not_not, reduceCtorEq, false_imp_iff, Bool.not_eq_true', Bool.not_eq_false', Bool.false_eq_true, and_self, forall_const, ne_eq, not_false_eq_true, Nat.reduceEqDiff]
    exact ans_bool h
  · exact h.1.elim
theorem in37 : inC.ok Try.prog 37 := by
  refine contract Try.func37 v37_is E0_ok 100 inC fun args k h => ⟨args, ?_⟩
  simp only [inC] at h
  split at h
  · refine ⟨by simp [leL, le], ?_⟩
    dsimp only [E0, v37, r_end, r_end1, r_nil, r_op, r_opg, r_runOp, r_op0, r_yld0, r_yld1, r_y, r_rbeg, r_rend, r_rend1, r_rfrm, r_rfrm1, r_range, r_rangeK, r_rangeE, r_draw, r_dnil, r_dop, r_dopg, r_dplq, r_dplh, r_dq, r_dq0, r_dcl1, r_dcl0, r_dct1, r_dct0, r_dgd, r_dgq1, r_dgq0, r_dctG, r_op1, r_eff, r_eff0, r_call, r_call0, r_inl, r_g, r_gq, r_gc, r_effg, r_effg0, r_callg, r_callg0, r_fin, r_pre, r_imp, r_all, r_ex, r_fing, r_preg, r_exg, r_inBlock, r_inLoop, r_frame, r_frame1, r_skip, r_region, r_seq, r_cond, r_cond1, r_block, r_exit, r_exit1, r_exit2, r_ret, r_loop, s_args0, s_args1, s_xt, s_xc, padL, blankL, callee, callArgs, eff, ctOf, getL, setL, S.put, S.upd, unopts, unopt, unoptsO, unoptsB, lazyO, guardOf, gbool, eMov, eNot, eNeg, eConv, eExt, eLenArr, eLen, eLenStr, eEqb, eEqv, allEq, eNil, negIf, eBool2, eCmp, eAri, ari, eBit, eDiv, eSh, eMinMax, foldMin, foldMax, kEq, pure1, cmpB, VO.quiet, resVals, resVal, tupled, popRet, popTo, cond, Option.bind, Option.map, eNew, eBox, asCells, lenH, snocH, eFieldAddr, eField, eLoad, cellsAt, getH, setH, dropL, takeL, mkAgg, lenL, lenS, shift, shiftL, shiftH, viewN, viewL, view, andT, junks, List.append_nil, Nat.beq, eIdxAddr, eIdxArr, eIndex, eStore, storeAt, spliceL, ones, one, eSlice, eSliceArr, bounds, subLo, addLo, eMake, eAppend, readS, repL, buildCells, chunk, purgeL, purgeLL, purgeH, purge, refs, refsL, List.cons_append, List.nil_append, wrOps, wrAl, wrDops, wrC, junkAt, putAll, putHs, headOf, headK, keepG, List.append_eq, headX, chkP, apartP, apartB, blk, strip, runAl, yld, putPs, lenN, findR, notRound, jumpK, jumpPT, jcode, List.map_cons, List.map_nil, ite_self, reduceIte]
    simp only [true_and, and_true, imp_self, implies_true, decide_eq_true_eq, decide_eq_false_iff_not, Nat.reduceAdd, Nat.reduceLeDiff, Bool.not_not, reduceCtorEq, false_imp_iff, Bool.not_eq_true', Bool.not_eq_false', Bool.false_eq_true, and_self, forall_const, ne_eq, not_false_eq_true, Nat.reduceEqDiff]
    exact ans_bool h
  · exact h.1.elim

def E1 : Env := { ct := fun n => match n with | 36 => some inC | 37 => some inC | _ => none, fn := fun _ => none, meth := fun _ _ => none }
theorem E1_ct36 : E1.ct 36 = some inC := rfl
theorem E1_ct37 : E1.ct 37 = some inC := rfl
theorem E1_ok : EnvOk Try.prog E1 := by
  refine ⟨fun f c h => ?_, fun f vf h => ?_, fun _ _ => rfl, by kernel_rfl⟩
  · simp only [E1] at h
    split at h
    · cases h; exact ⟨in36, Try.f36, Try.func36, by kernel_rfl, by kernel_rfl⟩
    · cases h; exact ⟨in37, Try.f37, Try.func37, by kernel_rfl, by kernel_rfl⟩
    · cases h
  · cases h


/-- A chain came in. -/
def chC (r : List Part → Int → Int → CRes) : List SV → CRes := fun l => match l with
  | [.agg [.vs _ _ n sz get, .int .i64 p, .int .i64 t]] => .ex (List Part) fun l => .pre (sz = 4 ∧ n = l.length ∧ ∀ k, k < n → get k = enc (l.getD k default)) (r l p t)
  | _ => noC
def chkC : Ctr := { alias := false, of := chC fun l p t => .fin (.int .i64 (checkF l p t)) [] }

theorem w_succ {i n : Nat} (h : i < n) (hn : n ≤ 9223372036854775807) : IntKind.i64.wrap ((i : Int) + 1) = ((i + 1 : Nat) : Int) := by
  rw [IntWalk.i64_in _ (by omega)]; simp

theorem chk13 : chkC.ok Try.prog 13 := by
  refine contract Try.func13 v13_is E1_ok 400 chkC fun args k h => ?_
  simp only [chkC, chC] at h
  split at h
  · rename_i tt z n sz get p t
    obtain ⟨l, ⟨rfl, rfl, hg⟩, h⟩ := h
    refine ⟨[.agg [.vs tt z l.length 4 (fun k => enc (l.getD k default)), .int .i64 p, .int .i64 t]], by simpa [leL, le] using fun k hk => leXL_eq (hg k hk), ?_⟩
    dsimp only [v13, E1_ct36, inC, r_end, r_end1, r_nil, r_op, r_opg, r_runOp, r_op0, r_yld0, r_yld1, r_y, r_rbeg, r_rend, r_rend1, r_rfrm, r_rfrm1, r_range, r_rangeK, r_rangeE, r_draw, r_dnil, r_dop, r_dopg, r_dplq, r_dplh, r_dq, r_dq0, r_dcl1, r_dcl0, r_dct1, r_dct0, r_dgd, r_dgq1, r_dgq0, r_dctG, r_op1, r_eff, r_eff0, r_call, r_call0, r_inl, r_g, r_gq, r_gc, r_effg, r_effg0, r_callg, r_callg0, r_fin, r_pre, r_imp, r_all, r_ex, r_fing, r_preg, r_exg, r_inBlock, r_inLoop, r_frame, r_frame1, r_skip, r_region, r_seq, r_cond, r_cond1, r_block, r_exit, r_exit1, r_exit2, r_ret, r_loop, s_args0, s_args1, s_xt, s_xc, padL, blankL, callee, callArgs, eff, ctOf, getL, setL, S.put, S.upd, unopts, unopt, unoptsO, unoptsB, lazyO, guardOf, gbool, eMov, eNot, eNeg, eConv, eExt, eLenArr, eLen, eLenStr, eEqb, eEqv, allEq, eNil, negIf, eBool2, eCmp, eAri, ari, eBit, eDiv, eSh, eMinMax, foldMin, foldMax, kEq, pure1, cmpB, VO.quiet, resVals, resVal, tupled, popRet, popTo, cond, Option.bind, Option.map, eNew, eBox, asCells, lenH, snocH, eFieldAddr, eField, eLoad, cellsAt, getH, setH, dropL, takeL, mkAgg, lenL, lenS, shift, shiftL, shiftH, viewN, viewL, view, andT, junks, List.append_nil, Nat.beq, eIdxAddr, eIdxArr, eIndex, eStore, storeAt, spliceL, ones, one, eSlice, eSliceArr, bounds, subLo, addLo, eMake, eAppend, readS, repL, buildCells, chunk, purgeL, purgeLL, purgeH, purge, refs, refsL, List.cons_append, List.nil_append, wrOps, wrAl, wrDops, wrC, junkAt, putAll, putHs, headOf, headK, keepG, List.append_eq, headX, chkP, apartP, apartB, blk, strip, runAl, yld, putPs, lenN, findR, notRound, jumpK, jumpPT, jcode, List.map_cons, List.map_nil, ite_self, reduceIte]
    simp only [true_and, and_true, imp_self, implies_true, decide_eq_true_eq, decide_eq_false_iff_not, Nat.reduceAdd, Nat.reduceLeDiff, Bool.not_not, reduceCtorEq, false_imp_iff, Bool.not_eq_true', Bool.not_eq_false', Bool.false_eq_true, and_self, forall_const, ne_eq, not_false_eq_true, Nat.reduceEqDiff]
    refine ⟨fun h8 => ans_int ?_, fun h8 => ?_⟩
    · have : l.length > 8 := by omega
      simpa only [checkF, this, if_true] using (show k _ [] from h)
    refine Loop.at Nat (fun i => [(3, .bool (headOk p t && (l.take i).all partOk)), (21, .int .i64 i)]) (fun _ => []) [] (fun i => i ≤ l.length) (fun i => l.length - i) ?_ ?_
    · refine ⟨0, Nat.zero_le _, ?_⟩
      dsimp only [r_end, r_end1, r_nil, r_op, r_opg, r_runOp, r_op0, r_yld0, r_yld1, r_y, r_rbeg, r_rend, r_rend1, r_rfrm, r_rfrm1, r_range, r_rangeK, r_rangeE, r_draw, r_dnil, r_dop, r_dopg, r_dplq, r_dplh, r_dq, r_dq0, r_dcl1, r_dcl0, r_dct1, r_dct0, r_dgd, r_dgq1, r_dgq0, r_dctG, r_op1, r_eff, r_eff0, r_call, r_call0, r_inl, r_g, r_gq, r_gc, r_effg, r_effg0, r_callg, r_callg0, r_fin, r_pre, r_imp, r_all, r_ex, r_fing, r_preg, r_exg, r_inBlock, r_inLoop, r_frame, r_frame1, r_skip, r_region, r_seq, r_cond, r_cond1, r_block, r_exit, r_exit1, r_exit2, r_ret, r_loop, s_args0, s_args1, s_xt, s_xc, padL, blankL, callee, callArgs, eff, ctOf, getL, setL, S.put, S.upd, unopts, unopt, unoptsO, unoptsB, lazyO, guardOf, gbool, eMov, eNot, eNeg, eConv, eExt, eLenArr, eLen, eLenStr, eEqb, eEqv, allEq, eNil, negIf, eBool2, eCmp, eAri, ari, eBit, eDiv, eSh, eMinMax, foldMin, foldMax, kEq, pure1, cmpB, VO.quiet, resVals, resVal, tupled, popRet, popTo, cond, Option.bind, Option.map, eNew, eBox, asCells, lenH, snocH, eFieldAddr, eField, eLoad, cellsAt, getH, setH, dropL, takeL, mkAgg, lenL, lenS, shift, shiftL, shiftH, viewN, viewL, view, andT, junks, List.append_nil, Nat.beq, eIdxAddr, eIdxArr, eIndex, eStore, storeAt, spliceL, ones, one, eSlice, eSliceArr, bounds, subLo, addLo, eMake, eAppend, readS, repL, buildCells, chunk, purgeL, purgeLL, purgeH, purge, refs, refsL, List.cons_append, List.nil_append, wrOps, wrAl, wrDops, wrC, junkAt, putAll, putHs, headOf, headK, keepG, List.append_eq, headX, chkP, apartP, apartB, blk, strip, runAl, yld, putPs, lenN, findR, notRound, jumpK, jumpPT, jcode, List.map_cons, List.map_nil, ite_self, reduceIte]
      simp only [leS_mk, leL_cons, leL_nil, le_junk, le_int, le_bool, le_nil, leLL_nil, leLL_cons, leH_cons, leH_nil, leH1_box, leH1_own, leH1_gone, le_vs, le_agg, le_tup, le_ptr, le_own, le_xp, le_fn, le_opt, le_val, le_elem, le_nil_own, le_nil_vs, leH_ghost, leL_chunk, leXL_id, bnd_int, bnd_bool, bnd_val, bnd_nil, bnd_junk, bnd_vs, bnd_xp, bnd_agg, bnd_tup, bnd_ptr, bnd_own, bnd_elem, bnd_fn, bnd_iface, bnd_opt, bndL_nil, bndL_cons, lenH_cons, lenH_nil, imp_self, implies_true, true_and, and_true]
      simp [headOk]
    · rintro i hi
      dsimp only [E1_ct36, inC, enc, Int.toNat_natCast, r_end, r_end1, r_nil, r_op, r_opg, r_runOp, r_op0, r_yld0, r_yld1, r_y, r_rbeg, r_rend, r_rend1, r_rfrm, r_rfrm1, r_range, r_rangeK, r_rangeE, r_draw, r_dnil, r_dop, r_dopg, r_dplq, r_dplh, r_dq, r_dq0, r_dcl1, r_dcl0, r_dct1, r_dct0, r_dgd, r_dgq1, r_dgq0, r_dctG, r_op1, r_eff, r_eff0, r_call, r_call0, r_inl, r_g, r_gq, r_gc, r_effg, r_effg0, r_callg, r_callg0, r_fin, r_pre, r_imp, r_all, r_ex, r_fing, r_preg, r_exg, r_inBlock, r_inLoop, r_frame, r_frame1, r_skip, r_region, r_seq, r_cond, r_cond1, r_block, r_exit, r_exit1, r_exit2, r_ret, r_loop, s_args0, s_args1, s_xt, s_xc, padL, blankL, callee, callArgs, eff, ctOf, getL, setL, S.put, S.upd, unopts, unopt, unoptsO, unoptsB, lazyO, guardOf, gbool, eMov, eNot, eNeg, eConv, eExt, eLenArr, eLen, eLenStr, eEqb, eEqv, allEq, eNil, negIf, eBool2, eCmp, eAri, ari, eBit, eDiv, eSh, eMinMax, foldMin, foldMax, kEq, pure1, cmpB, VO.quiet, resVals, resVal, tupled, popRet, popTo, cond, Option.bind, Option.map, eNew, eBox, asCells, lenH, snocH, eFieldAddr, eField, eLoad, cellsAt, getH, setH, dropL, takeL, mkAgg, lenL, lenS, shift, shiftL, shiftH, viewN, viewL, view, andT, junks, List.append_nil, Nat.beq, eIdxAddr, eIdxArr, eIndex, eStore, storeAt, spliceL, ones, one, eSlice, eSliceArr, bounds, subLo, addLo, eMake, eAppend, readS, repL, buildCells, chunk, purgeL, purgeLL, purgeH, purge, refs, refsL, List.cons_append, List.nil_append, wrOps, wrAl, wrDops, wrC, junkAt, putAll, putHs, headOf, headK, keepG, List.append_eq, headX, chkP, apartP, apartB, blk, strip, runAl, yld, putPs, lenN, findR, notRound, jumpK, jumpPT, jcode, List.map_cons, List.map_nil, ite_self, reduceIte]
      simp only [true_and, and_true, imp_self, implies_true, decide_eq_true_eq, decide_eq_false_iff_not, Nat.reduceAdd, Nat.reduceLeDiff, Bool.not_not, reduceCtorEq, false_imp_iff, Bool.not_eq_true', Bool.not_eq_false', Bool.false_eq_true, and_self, forall_const, ne_eq, not_false_eq_true, Nat.reduceEqDiff]
      refine ⟨fun hlt => ⟨⟨by omega, hlt⟩, i + 1, by omega, by omega, ?_⟩, fun hge => ⟨fun hb => ans_int ?_, fun hb => ans_int ?_⟩⟩
      · have hw := w_succ (i := i) (n := l.length) (by omega) (by omega)
        simp only [hw, leS_mk, leL_cons, leL_nil, le_junk, le_int, le_bool, le_nil, leLL_nil, leLL_cons, leH_cons, leH_nil, leH1_box, leH1_own, leH1_gone, le_vs, le_agg, le_tup, le_ptr, le_own, le_xp, le_fn, le_opt, le_val, le_elem, le_nil_own, le_nil_vs, leH_ghost, leL_chunk, leXL_id, bnd_int, bnd_bool, bnd_val, bnd_nil, bnd_junk, bnd_vs, bnd_xp, bnd_agg, bnd_tup, bnd_ptr, bnd_own, bnd_elem, bnd_fn, bnd_iface, bnd_opt, bndL_nil, bndL_cons, lenH_cons, lenH_nil, imp_self, implies_true, true_and, and_true]
        rw [take_all_succ (by omega : i < l.length)]
        simp [partOk, Bool.and_assoc]
      · have h8' : ¬ l.length > 8 := by omega
        rw [take_full (by omega)] at hb
        simpa only [checkF, h8', hb, if_true, if_false, Bool.false_eq_true] using (show k _ [] from h)
      · have h8' : ¬ l.length > 8 := by omega
        rw [take_full (by omega)] at hb
        simpa only [checkF, h8', hb, if_true, if_false, Bool.false_eq_true] using (show k _ [] from h)
  · exact h.1.elim

theorem all_of_ge {l : List Part} {i : Nat} (h : l.length ≤ i) (ha : (l.take i).all partOk = true) : l.all partOk = true := by rwa [take_full h] at ha

theorem chk14 : chkC.ok Try.prog 14 := by
  refine contract Try.func14 v14_is E1_ok 400 chkC fun args k h => ?_
  simp only [chkC, chC] at h
  split at h
  · rename_i tt z n sz get p t
    obtain ⟨l, ⟨rfl, rfl, hg⟩, h⟩ := h
    refine ⟨[.agg [.vs tt z l.length 4 (fun k => enc (l.getD k default)), .int .i64 p, .int .i64 t]], by simpa [leL, le] using fun k hk => leXL_eq (hg k hk), ?_⟩
    dsimp only [v14, E1_ct37, inC, r_end, r_end1, r_nil, r_op, r_opg, r_runOp, r_op0, r_yld0, r_yld1, r_y, r_rbeg, r_rend, r_rend1, r_rfrm, r_rfrm1, r_range, r_rangeK, r_rangeE, r_draw, r_dnil, r_dop, r_dopg, r_dplq, r_dplh, r_dq, r_dq0, r_dcl1, r_dcl0, r_dct1, r_dct0, r_dgd, r_dgq1, r_dgq0, r_dctG, r_op1, r_eff, r_eff0, r_call, r_call0, r_inl, r_g, r_gq, r_gc, r_effg, r_effg0, r_callg, r_callg0, r_fin, r_pre, r_imp, r_all, r_ex, r_fing, r_preg, r_exg, r_inBlock, r_inLoop, r_frame, r_frame1, r_skip, r_region, r_seq, r_cond, r_cond1, r_block, r_exit, r_exit1, r_exit2, r_ret, r_loop, s_args0, s_args1, s_xt, s_xc, padL, blankL, callee, callArgs, eff, ctOf, getL, setL, S.put, S.upd, unopts, unopt, unoptsO, unoptsB, lazyO, guardOf, gbool, eMov, eNot, eNeg, eConv, eExt, eLenArr, eLen, eLenStr, eEqb, eEqv, allEq, eNil, negIf, eBool2, eCmp, eAri, ari, eBit, eDiv, eSh, eMinMax, foldMin, foldMax, kEq, pure1, cmpB, VO.quiet, resVals, resVal, tupled, popRet, popTo, cond, Option.bind, Option.map, eNew, eBox, asCells, lenH, snocH, eFieldAddr, eField, eLoad, cellsAt, getH, setH, dropL, takeL, mkAgg, lenL, lenS, shift, shiftL, shiftH, viewN, viewL, view, andT, junks, List.append_nil, Nat.beq, eIdxAddr, eIdxArr, eIndex, eStore, storeAt, spliceL, ones, one, eSlice, eSliceArr, bounds, subLo, addLo, eMake, eAppend, readS, repL, buildCells, chunk, purgeL, purgeLL, purgeH, purge, refs, refsL, List.cons_append, List.nil_append, wrOps, wrAl, wrDops, wrC, junkAt, putAll, putHs, headOf, headK, keepG, List.append_eq, headX, chkP, apartP, apartB, blk, strip, runAl, yld, putPs, lenN, findR, notRound, jumpK, jumpPT, jcode, List.map_cons, List.map_nil, ite_self, reduceIte]
    simp only [true_and, and_true, imp_self, implies_true, decide_eq_true_eq, decide_eq_false_iff_not, Nat.reduceAdd, Nat.reduceLeDiff, Bool.not_not, reduceCtorEq, false_imp_iff, Bool.not_eq_true', Bool.not_eq_false', Bool.false_eq_true, and_self, forall_const, ne_eq, not_false_eq_true, Nat.reduceEqDiff]
    refine ⟨fun h8 => ans_int ?_, fun h8 => ?_⟩
    · have : l.length > 8 := by omega
      simpa only [checkF, this, if_true] using (show k _ [] from h)
    have h8' : ¬ l.length > 8 := by omega
    refine Loop.at Nat (fun i => [(3, .int .i64 i)]) (fun _ => []) [] (fun i => i ≤ l.length ∧ (l.take i).all partOk = true) (fun i => l.length - i) ?_ ?_
    · refine ⟨0, ⟨Nat.zero_le _, rfl⟩, ?_⟩
      dsimp only [r_end, r_end1, r_nil, r_op, r_opg, r_runOp, r_op0, r_yld0, r_yld1, r_y, r_rbeg, r_rend, r_rend1, r_rfrm, r_rfrm1, r_range, r_rangeK, r_rangeE, r_draw, r_dnil, r_dop, r_dopg, r_dplq, r_dplh, r_dq, r_dq0, r_dcl1, r_dcl0, r_dct1, r_dct0, r_dgd, r_dgq1, r_dgq0, r_dctG, r_op1, r_eff, r_eff0, r_call, r_call0, r_inl, r_g, r_gq, r_gc, r_effg, r_effg0, r_callg, r_callg0, r_fin, r_pre, r_imp, r_all, r_ex, r_fing, r_preg, r_exg, r_inBlock, r_inLoop, r_frame, r_frame1, r_skip, r_region, r_seq, r_cond, r_cond1, r_block, r_exit, r_exit1, r_exit2, r_ret, r_loop, s_args0, s_args1, s_xt, s_xc, padL, blankL, callee, callArgs, eff, ctOf, getL, setL, S.put, S.upd, unopts, unopt, unoptsO, unoptsB, lazyO, guardOf, gbool, eMov, eNot, eNeg, eConv, eExt, eLenArr, eLen, eLenStr, eEqb, eEqv, allEq, eNil, negIf, eBool2, eCmp, eAri, ari, eBit, eDiv, eSh, eMinMax, foldMin, foldMax, kEq, pure1, cmpB, VO.quiet, resVals, resVal, tupled, popRet, popTo, cond, Option.bind, Option.map, eNew, eBox, asCells, lenH, snocH, eFieldAddr, eField, eLoad, cellsAt, getH, setH, dropL, takeL, mkAgg, lenL, lenS, shift, shiftL, shiftH, viewN, viewL, view, andT, junks, List.append_nil, Nat.beq, eIdxAddr, eIdxArr, eIndex, eStore, storeAt, spliceL, ones, one, eSlice, eSliceArr, bounds, subLo, addLo, eMake, eAppend, readS, repL, buildCells, chunk, purgeL, purgeLL, purgeH, purge, refs, refsL, List.cons_append, List.nil_append, wrOps, wrAl, wrDops, wrC, junkAt, putAll, putHs, headOf, headK, keepG, List.append_eq, headX, chkP, apartP, apartB, blk, strip, runAl, yld, putPs, lenN, findR, notRound, jumpK, jumpPT, jcode, List.map_cons, List.map_nil, ite_self, reduceIte]
      simp only [leS_mk, leL_cons, leL_nil, le_junk, le_int, le_bool, le_nil, leLL_nil, leLL_cons, leH_cons, leH_nil, leH1_box, leH1_own, leH1_gone, le_vs, le_agg, le_tup, le_ptr, le_own, le_xp, le_fn, le_opt, le_val, le_elem, le_nil_own, le_nil_vs, leH_ghost, leL_chunk, leXL_id, bnd_int, bnd_bool, bnd_val, bnd_nil, bnd_junk, bnd_vs, bnd_xp, bnd_agg, bnd_tup, bnd_ptr, bnd_own, bnd_elem, bnd_fn, bnd_iface, bnd_opt, bndL_nil, bndL_cons, lenH_cons, lenH_nil, imp_self, implies_true, true_and, and_true]
      simp
    · rintro i ⟨hi, hall⟩
      dsimp only [E1_ct37, inC, enc, Int.toNat_natCast, r_end, r_end1, r_nil, r_op, r_opg, r_runOp, r_op0, r_yld0, r_yld1, r_y, r_rbeg, r_rend, r_rend1, r_rfrm, r_rfrm1, r_range, r_rangeK, r_rangeE, r_draw, r_dnil, r_dop, r_dopg, r_dplq, r_dplh, r_dq, r_dq0, r_dcl1, r_dcl0, r_dct1, r_dct0, r_dgd, r_dgq1, r_dgq0, r_dctG, r_op1, r_eff, r_eff0, r_call, r_call0, r_inl, r_g, r_gq, r_gc, r_effg, r_effg0, r_callg, r_callg0, r_fin, r_pre, r_imp, r_all, r_ex, r_fing, r_preg, r_exg, r_inBlock, r_inLoop, r_frame, r_frame1, r_skip, r_region, r_seq, r_cond, r_cond1, r_block, r_exit, r_exit1, r_exit2, r_ret, r_loop, s_args0, s_args1, s_xt, s_xc, padL, blankL, callee, callArgs, eff, ctOf, getL, setL, S.put, S.upd, unopts, unopt, unoptsO, unoptsB, lazyO, guardOf, gbool, eMov, eNot, eNeg, eConv, eExt, eLenArr, eLen, eLenStr, eEqb, eEqv, allEq, eNil, negIf, eBool2, eCmp, eAri, ari, eBit, eDiv, eSh, eMinMax, foldMin, foldMax, kEq, pure1, cmpB, VO.quiet, resVals, resVal, tupled, popRet, popTo, cond, Option.bind, Option.map, eNew, eBox, asCells, lenH, snocH, eFieldAddr, eField, eLoad, cellsAt, getH, setH, dropL, takeL, mkAgg, lenL, lenS, shift, shiftL, shiftH, viewN, viewL, view, andT, junks, List.append_nil, Nat.beq, eIdxAddr, eIdxArr, eIndex, eStore, storeAt, spliceL, ones, one, eSlice, eSliceArr, bounds, subLo, addLo, eMake, eAppend, readS, repL, buildCells, chunk, purgeL, purgeLL, purgeH, purge, refs, refsL, List.cons_append, List.nil_append, wrOps, wrAl, wrDops, wrC, junkAt, putAll, putHs, headOf, headK, keepG, List.append_eq, headX, chkP, apartP, apartB, blk, strip, runAl, yld, putPs, lenN, findR, notRound, jumpK, jumpPT, jcode, List.map_cons, List.map_nil, ite_self, reduceIte]
      simp only [true_and, and_true, imp_self, implies_true, decide_eq_true_eq, decide_eq_false_iff_not, Nat.reduceAdd, Nat.reduceLeDiff, Bool.not_not, reduceCtorEq, false_imp_iff, Bool.not_eq_true', Bool.not_eq_false', Bool.false_eq_true, and_self, forall_const, ne_eq, not_false_eq_true, Nat.reduceEqDiff]
      refine ⟨fun hlt => ?_, fun hge => ?_⟩
      · have hil : i < l.length := by omega
        refine ⟨by omega, fun hb => ans_int ?_, fun hb => ⟨i + 1, ⟨by omega, ?_⟩, by omega, ?_⟩⟩
        · have hp : l.all partOk = false := by
            rw [Bool.eq_false_iff]; intro ha
            have := List.all_eq_true.1 ha (l.getD i default) (getD_mem hil)
            revert hb this; simp only [partOk]
            cases inF (l.getD i default).num 1 12 <;> cases inF (l.getD i default).den 1 12 <;> cases inF (l.getD i default).play 0 5000 <;> cases inF (l.getD i default).weight 0 10000 <;> simp
          simpa only [checkF, h8', hp, if_false, Bool.and_false, Bool.false_eq_true] using (show k _ [] from h)
        · rw [take_all_succ hil, hall]
          revert hb; simp only [partOk]
          cases inF (l.getD i default).num 1 12 <;> cases inF (l.getD i default).den 1 12 <;> cases inF (l.getD i default).play 0 5000 <;> cases inF (l.getD i default).weight 0 10000 <;> simp
        · have hw := w_succ (i := i) (n := l.length) (by omega) (by omega)
          simp only [hw, leS_mk, leL_cons, leL_nil, le_junk, le_int, le_bool, le_nil, leLL_nil, leLL_cons, leH_cons, leH_nil, leH1_box, leH1_own, leH1_gone, le_vs, le_agg, le_tup, le_ptr, le_own, le_xp, le_fn, le_opt, le_val, le_elem, le_nil_own, le_nil_vs, leH_ghost, leL_chunk, leXL_id, bnd_int, bnd_bool, bnd_val, bnd_nil, bnd_junk, bnd_vs, bnd_xp, bnd_agg, bnd_tup, bnd_ptr, bnd_own, bnd_elem, bnd_fn, bnd_iface, bnd_opt, bndL_nil, bndL_cons, lenH_cons, lenH_nil, imp_self, implies_true, true_and, and_true]
          simp
      · have hall' : l.all partOk = true := all_of_ge (by omega) hall
        refine ⟨fun hb => ans_int ?_, fun hb => ans_int ?_⟩
        · have : headOk p t = false := by revert hb; simp only [headOk]; cases inF p 0 100000 <;> cases inF t 1 5000 <;> simp
          simpa only [checkF, h8', this, if_false, Bool.false_and, Bool.false_eq_true] using (show k _ [] from h)
        · have : headOk p t = true := by revert hb; simp only [headOk]; cases inF p 0 100000 <;> cases inF t 1 5000 <;> simp
          simpa only [checkF, h8', this, hall', if_false, if_true, Bool.true_and] using (show k _ [] from h)
  · exact h.1.elim

/-! ### Fractions -/

def qC (r : Int → Int → CRes) : List SV → CRes := fun l => match l with | [.agg [.int .i64 a, .int .i64 b]] => r a b | _ => noC
def lessC : Ctr := { alias := false, of := fun l => match l with | [.agg [.int .i64 a, .int .i64 b], .int .i64 n] => .fin (.agg (encQ (lessF ⟨a, b⟩ n))) [] | _ => noC }
def moreC : Ctr := { alias := false, of := fun l => match l with | [.agg [.int .i64 a, .int .i64 b], .int .i64 n] => .fin (.agg (encQ (moreF ⟨a, b⟩ n))) [] | _ => noC }
def timesC : Ctr := { alias := false, of := fun l => match l with | [.agg [.int .i64 a, .int .i64 b], .agg [.int .i64 n, .int .i64 d, .int .i64 pl, .int .i64 we]] => .fin (.agg (encQ (timesF ⟨a, b⟩ ⟨n, d, pl, we⟩))) [] | _ => noC }
def ivC : Ctr := { alias := false, of := fun l => match l with | [.agg [.int .i64 a, .int .i64 b]] => .pre (b ≠ 0) (.fin (.agg [.int .i64 (ivLo ⟨a, b⟩), .int .i64 (ivHi ⟨a, b⟩)]) []) | _ => noC }
def rivC : Ctr := { alias := false, of := fun l => match l with | [.agg [.int .i64 a, .int .i64 b]] => .pre (b ≠ 0) (.fin (.agg [.int .i64 (ivLo ⟨a, b⟩), .int .i64 (rivHi ⟨a, b⟩)]) []) | _ => noC }

theorem less44 : lessC.ok Try.prog 44 := by
  refine contract Try.func44 v44_is E0_ok 100 lessC fun args k h => ⟨args, ?_⟩
  simp only [lessC] at h
  split at h
  · refine ⟨by simp [leL, le], ?_⟩
    dsimp only [E0, v44, r_end, r_end1, r_nil, r_op, r_opg, r_runOp, r_op0, r_yld0, r_yld1, r_y, r_rbeg, r_rend, r_rend1, r_rfrm, r_rfrm1, r_range, r_rangeK, r_rangeE, r_draw, r_dnil, r_dop, r_dopg, r_dplq, r_dplh, r_dq, r_dq0, r_dcl1, r_dcl0, r_dct1, r_dct0, r_dgd, r_dgq1, r_dgq0, r_dctG, r_op1, r_eff, r_eff0, r_call, r_call0, r_inl, r_g, r_gq, r_gc, r_effg, r_effg0, r_callg, r_callg0, r_fin, r_pre, r_imp, r_all, r_ex, r_fing, r_preg, r_exg, r_inBlock, r_inLoop, r_frame, r_frame1, r_skip, r_region, r_seq, r_cond, r_cond1, r_block, r_exit, r_exit1, r_exit2, r_ret, r_loop, s_args0, s_args1, s_xt, s_xc, padL, blankL, callee, callArgs, eff, ctOf, getL, setL, S.put, S.upd, unopts, unopt, unoptsO, unoptsB, lazyO, guardOf, gbool, eMov, eNot, eNeg, eConv, eExt, eLenArr, eLen, eLenStr, eEqb, eEqv, allEq, eNil, negIf, eBool2, eCmp, eAri, ari, eBit, eDiv, eSh, eMinMax, foldMin, foldMax, kEq, pure1, cmpB, VO.quiet, resVals, resVal, tupled, popRet, popTo, cond, Option.bind, Option.map, eNew, eBox, asCells, lenH, snocH, eFieldAddr, eField, eLoad, cellsAt, getH, setH, dropL, takeL, mkAgg, lenL, lenS, shift, shiftL, shiftH, viewN, viewL, view, andT, junks, List.append_nil, Nat.beq, eIdxAddr, eIdxArr, eIndex, eStore, storeAt, spliceL, ones, one, eSlice, eSliceArr, bounds, subLo, addLo, eMake, eAppend, readS, repL, buildCells, chunk, purgeL, purgeLL, purgeH, purge, refs, refsL, List.cons_append, List.nil_append, wrOps, wrAl, wrDops, wrC, junkAt, putAll, putHs, headOf, headK, keepG, List.append_eq, headX, chkP, apartP, apartB, blk, strip, runAl, yld, putPs, lenN, findR, notRound, jumpK, jumpPT, jcode, List.map_cons, List.map_nil, ite_self, reduceIte]
    simp only [true_and, and_true, imp_self, implies_true, decide_eq_true_eq, decide_eq_false_iff_not, Nat.reduceAdd, Nat.reduceLeDiff, Bool.not_not, reduceCtorEq, false_imp_iff, Bool.not_eq_true', Bool.not_eq_false', Bool.false_eq_true, and_self, forall_const, ne_eq, not_false_eq_true, Nat.reduceEqDiff]
    refine ans_le (show k _ [] from h) ?_ ?_
    · simp [expo, view, viewL, le, leL, encQ, lessF, w6]
    · simp [freshS, freshL, encQ]
  · exact h.1.elim
theorem more34 : moreC.ok Try.prog 34 := by
  refine contract Try.func34 v34_is E0_ok 100 moreC fun args k h => ⟨args, ?_⟩
  simp only [moreC] at h
  split at h
  · refine ⟨by simp [leL, le], ?_⟩
    dsimp only [E0, v34, r_end, r_end1, r_nil, r_op, r_opg, r_runOp, r_op0, r_yld0, r_yld1, r_y, r_rbeg, r_rend, r_rend1, r_rfrm, r_rfrm1, r_range, r_rangeK, r_rangeE, r_draw, r_dnil, r_dop, r_dopg, r_dplq, r_dplh, r_dq, r_dq0, r_dcl1, r_dcl0, r_dct1, r_dct0, r_dgd, r_dgq1, r_dgq0, r_dctG, r_op1, r_eff, r_eff0, r_call, r_call0, r_inl, r_g, r_gq, r_gc, r_effg, r_effg0, r_callg, r_callg0, r_fin, r_pre, r_imp, r_all, r_ex, r_fing, r_preg, r_exg, r_inBlock, r_inLoop, r_frame, r_frame1, r_skip, r_region, r_seq, r_cond, r_cond1, r_block, r_exit, r_exit1, r_exit2, r_ret, r_loop, s_args0, s_args1, s_xt, s_xc, padL, blankL, callee, callArgs, eff, ctOf, getL, setL, S.put, S.upd, unopts, unopt, unoptsO, unoptsB, lazyO, guardOf, gbool, eMov, eNot, eNeg, eConv, eExt, eLenArr, eLen, eLenStr, eEqb, eEqv, allEq, eNil, negIf, eBool2, eCmp, eAri, ari, eBit, eDiv, eSh, eMinMax, foldMin, foldMax, kEq, pure1, cmpB, VO.quiet, resVals, resVal, tupled, popRet, popTo, cond, Option.bind, Option.map, eNew, eBox, asCells, lenH, snocH, eFieldAddr, eField, eLoad, cellsAt, getH, setH, dropL, takeL, mkAgg, lenL, lenS, shift, shiftL, shiftH, viewN, viewL, view, andT, junks, List.append_nil, Nat.beq, eIdxAddr, eIdxArr, eIndex, eStore, storeAt, spliceL, ones, one, eSlice, eSliceArr, bounds, subLo, addLo, eMake, eAppend, readS, repL, buildCells, chunk, purgeL, purgeLL, purgeH, purge, refs, refsL, List.cons_append, List.nil_append, wrOps, wrAl, wrDops, wrC, junkAt, putAll, putHs, headOf, headK, keepG, List.append_eq, headX, chkP, apartP, apartB, blk, strip, runAl, yld, putPs, lenN, findR, notRound, jumpK, jumpPT, jcode, List.map_cons, List.map_nil, ite_self, reduceIte]
    simp only [true_and, and_true, imp_self, implies_true, decide_eq_true_eq, decide_eq_false_iff_not, Nat.reduceAdd, Nat.reduceLeDiff, Bool.not_not, reduceCtorEq, false_imp_iff, Bool.not_eq_true', Bool.not_eq_false', Bool.false_eq_true, and_self, forall_const, ne_eq, not_false_eq_true, Nat.reduceEqDiff]
    refine ans_le (show k _ [] from h) ?_ ?_
    · simp [expo, view, viewL, le, leL, encQ, moreF, w6]
    · simp [freshS, freshL, encQ]
  · exact h.1.elim
theorem times45 : timesC.ok Try.prog 45 := by
  refine contract Try.func45 v45_is E0_ok 100 timesC fun args k h => ⟨args, ?_⟩
  simp only [timesC] at h
  split at h
  · refine ⟨by simp [leL, le], ?_⟩
    dsimp only [E0, v45, r_end, r_end1, r_nil, r_op, r_opg, r_runOp, r_op0, r_yld0, r_yld1, r_y, r_rbeg, r_rend, r_rend1, r_rfrm, r_rfrm1, r_range, r_rangeK, r_rangeE, r_draw, r_dnil, r_dop, r_dopg, r_dplq, r_dplh, r_dq, r_dq0, r_dcl1, r_dcl0, r_dct1, r_dct0, r_dgd, r_dgq1, r_dgq0, r_dctG, r_op1, r_eff, r_eff0, r_call, r_call0, r_inl, r_g, r_gq, r_gc, r_effg, r_effg0, r_callg, r_callg0, r_fin, r_pre, r_imp, r_all, r_ex, r_fing, r_preg, r_exg, r_inBlock, r_inLoop, r_frame, r_frame1, r_skip, r_region, r_seq, r_cond, r_cond1, r_block, r_exit, r_exit1, r_exit2, r_ret, r_loop, s_args0, s_args1, s_xt, s_xc, padL, blankL, callee, callArgs, eff, ctOf, getL, setL, S.put, S.upd, unopts, unopt, unoptsO, unoptsB, lazyO, guardOf, gbool, eMov, eNot, eNeg, eConv, eExt, eLenArr, eLen, eLenStr, eEqb, eEqv, allEq, eNil, negIf, eBool2, eCmp, eAri, ari, eBit, eDiv, eSh, eMinMax, foldMin, foldMax, kEq, pure1, cmpB, VO.quiet, resVals, resVal, tupled, popRet, popTo, cond, Option.bind, Option.map, eNew, eBox, asCells, lenH, snocH, eFieldAddr, eField, eLoad, cellsAt, getH, setH, dropL, takeL, mkAgg, lenL, lenS, shift, shiftL, shiftH, viewN, viewL, view, andT, junks, List.append_nil, Nat.beq, eIdxAddr, eIdxArr, eIndex, eStore, storeAt, spliceL, ones, one, eSlice, eSliceArr, bounds, subLo, addLo, eMake, eAppend, readS, repL, buildCells, chunk, purgeL, purgeLL, purgeH, purge, refs, refsL, List.cons_append, List.nil_append, wrOps, wrAl, wrDops, wrC, junkAt, putAll, putHs, headOf, headK, keepG, List.append_eq, headX, chkP, apartP, apartB, blk, strip, runAl, yld, putPs, lenN, findR, notRound, jumpK, jumpPT, jcode, List.map_cons, List.map_nil, ite_self, reduceIte]
    simp only [true_and, and_true, imp_self, implies_true, decide_eq_true_eq, decide_eq_false_iff_not, Nat.reduceAdd, Nat.reduceLeDiff, Bool.not_not, reduceCtorEq, false_imp_iff, Bool.not_eq_true', Bool.not_eq_false', Bool.false_eq_true, and_self, forall_const, ne_eq, not_false_eq_true, Nat.reduceEqDiff]
    refine ans_le (show k _ [] from h) ?_ ?_
    · simp [expo, view, viewL, le, leL, encQ, timesF, w6]
    · simp [freshS, freshL, encQ]
  · exact h.1.elim
theorem iv29 : ivC.ok Try.prog 29 := by
  refine contract Try.func29 v29_is E0_ok 100 ivC fun args k h => ⟨args, ?_⟩
  simp only [ivC] at h
  split at h
  · refine ⟨by simp [leL, le], ?_⟩
    obtain ⟨hb, h⟩ := h
    dsimp only [E0, v29, r_end, r_end1, r_nil, r_op, r_opg, r_runOp, r_op0, r_yld0, r_yld1, r_y, r_rbeg, r_rend, r_rend1, r_rfrm, r_rfrm1, r_range, r_rangeK, r_rangeE, r_draw, r_dnil, r_dop, r_dopg, r_dplq, r_dplh, r_dq, r_dq0, r_dcl1, r_dcl0, r_dct1, r_dct0, r_dgd, r_dgq1, r_dgq0, r_dctG, r_op1, r_eff, r_eff0, r_call, r_call0, r_inl, r_g, r_gq, r_gc, r_effg, r_effg0, r_callg, r_callg0, r_fin, r_pre, r_imp, r_all, r_ex, r_fing, r_preg, r_exg, r_inBlock, r_inLoop, r_frame, r_frame1, r_skip, r_region, r_seq, r_cond, r_cond1, r_block, r_exit, r_exit1, r_exit2, r_ret, r_loop, s_args0, s_args1, s_xt, s_xc, padL, blankL, callee, callArgs, eff, ctOf, getL, setL, S.put, S.upd, unopts, unopt, unoptsO, unoptsB, lazyO, guardOf, gbool, eMov, eNot, eNeg, eConv, eExt, eLenArr, eLen, eLenStr, eEqb, eEqv, allEq, eNil, negIf, eBool2, eCmp, eAri, ari, eBit, eDiv, eSh, eMinMax, foldMin, foldMax, kEq, pure1, cmpB, VO.quiet, resVals, resVal, tupled, popRet, popTo, cond, Option.bind, Option.map, eNew, eBox, asCells, lenH, snocH, eFieldAddr, eField, eLoad, cellsAt, getH, setH, dropL, takeL, mkAgg, lenL, lenS, shift, shiftL, shiftH, viewN, viewL, view, andT, junks, List.append_nil, Nat.beq, eIdxAddr, eIdxArr, eIndex, eStore, storeAt, spliceL, ones, one, eSlice, eSliceArr, bounds, subLo, addLo, eMake, eAppend, readS, repL, buildCells, chunk, purgeL, purgeLL, purgeH, purge, refs, refsL, List.cons_append, List.nil_append, wrOps, wrAl, wrDops, wrC, junkAt, putAll, putHs, headOf, headK, keepG, List.append_eq, headX, chkP, apartP, apartB, blk, strip, runAl, yld, putPs, lenN, findR, notRound, jumpK, jumpPT, jcode, List.map_cons, List.map_nil, ite_self, reduceIte]
    simp only [true_and, and_true, imp_self, implies_true, decide_eq_true_eq, decide_eq_false_iff_not, Nat.reduceAdd, Nat.reduceLeDiff, Bool.not_not, reduceCtorEq, false_imp_iff, Bool.not_eq_true', Bool.not_eq_false', Bool.false_eq_true, and_self, forall_const, ne_eq, not_false_eq_true, Nat.reduceEqDiff]
    refine ⟨hb, hb, ans_le (show k _ [] from h) ?_ ?_⟩
    · simp [expo, view, viewL, le, leL, ivLo, ivHi, w6]
    · simp [freshS, freshL]
  · exact h.1.elim
theorem riv31 : rivC.ok Try.prog 31 := by
  refine contract Try.func31 v31_is E0_ok 100 rivC fun args k h => ⟨args, ?_⟩
  simp only [rivC] at h
  split at h
  · refine ⟨by simp [leL, le], ?_⟩
    obtain ⟨hb, h⟩ := h
    dsimp only [E0, v31, r_end, r_end1, r_nil, r_op, r_opg, r_runOp, r_op0, r_yld0, r_yld1, r_y, r_rbeg, r_rend, r_rend1, r_rfrm, r_rfrm1, r_range, r_rangeK, r_rangeE, r_draw, r_dnil, r_dop, r_dopg, r_dplq, r_dplh, r_dq, r_dq0, r_dcl1, r_dcl0, r_dct1, r_dct0, r_dgd, r_dgq1, r_dgq0, r_dctG, r_op1, r_eff, r_eff0, r_call, r_call0, r_inl, r_g, r_gq, r_gc, r_effg, r_effg0, r_callg, r_callg0, r_fin, r_pre, r_imp, r_all, r_ex, r_fing, r_preg, r_exg, r_inBlock, r_inLoop, r_frame, r_frame1, r_skip, r_region, r_seq, r_cond, r_cond1, r_block, r_exit, r_exit1, r_exit2, r_ret, r_loop, s_args0, s_args1, s_xt, s_xc, padL, blankL, callee, callArgs, eff, ctOf, getL, setL, S.put, S.upd, unopts, unopt, unoptsO, unoptsB, lazyO, guardOf, gbool, eMov, eNot, eNeg, eConv, eExt, eLenArr, eLen, eLenStr, eEqb, eEqv, allEq, eNil, negIf, eBool2, eCmp, eAri, ari, eBit, eDiv, eSh, eMinMax, foldMin, foldMax, kEq, pure1, cmpB, VO.quiet, resVals, resVal, tupled, popRet, popTo, cond, Option.bind, Option.map, eNew, eBox, asCells, lenH, snocH, eFieldAddr, eField, eLoad, cellsAt, getH, setH, dropL, takeL, mkAgg, lenL, lenS, shift, shiftL, shiftH, viewN, viewL, view, andT, junks, List.append_nil, Nat.beq, eIdxAddr, eIdxArr, eIndex, eStore, storeAt, spliceL, ones, one, eSlice, eSliceArr, bounds, subLo, addLo, eMake, eAppend, readS, repL, buildCells, chunk, purgeL, purgeLL, purgeH, purge, refs, refsL, List.cons_append, List.nil_append, wrOps, wrAl, wrDops, wrC, junkAt, putAll, putHs, headOf, headK, keepG, List.append_eq, headX, chkP, apartP, apartB, blk, strip, runAl, yld, putPs, lenN, findR, notRound, jumpK, jumpPT, jcode, List.map_cons, List.map_nil, ite_self, reduceIte]
    simp only [true_and, and_true, imp_self, implies_true, decide_eq_true_eq, decide_eq_false_iff_not, Nat.reduceAdd, Nat.reduceLeDiff, Bool.not_not, reduceCtorEq, false_imp_iff, Bool.not_eq_true', Bool.not_eq_false', Bool.false_eq_true, and_self, forall_const, ne_eq, not_false_eq_true, Nat.reduceEqDiff]
    refine ⟨hb, hb, hb, fun hm => ans_le (show k _ [] from h) ?_ ?_, fun hm => ans_le (show k _ [] from h) ?_ ?_⟩
    · simp [expo, view, viewL, le, leL, ivLo, rivHi, w6, hm]
    · simp [freshS, freshL]
    · simp [expo, view, viewL, le, leL, ivLo, rivHi, w6, hm]
    · simp [freshS, freshL]
  · exact h.1.elim
end Go.Proofs.Ytmhlinndhmdjlaa
