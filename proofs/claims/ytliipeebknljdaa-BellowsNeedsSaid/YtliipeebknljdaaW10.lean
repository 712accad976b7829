/- Bellows: two more laws, walked. -/
import Derived.Test.YtliipeebknljdaaW9
import Derived.Test.YtliipeebknljdaaS5
set_option linter.all false
namespace Go.Proofs.Ytliipeebknljdaa
open Go Go.Vx
set_option maxRecDepth 100000
set_option maxHeartbeats 4000000

def v6 : VF := { ntmps := 128, res := [.tmp 4], body :=
 (.seq (.region [⟨(some 2), none, .box, [.tm 0]⟩,
  ⟨(some 4), none, .mov, [.cn (.bool false)]⟩])
 (.seq (.seq (.region [⟨(some 21), none, .mov, [.tm 1]⟩,
  ⟨(some 22), none, .len, [.tm 21]⟩,
  ⟨(some 23), none, (.cmp .gtr), [.tm 22, .cn (.int .i64 200)]⟩])
 (.cond (.tm 23) (.seq (.region [⟨(some 24), none, (.call 9), []⟩,
  ⟨(some 4), none, .mov, [.tm 24]⟩])
 .ret)
  .skip))
 (.seq (.region [⟨(some 26), none, (.load true 5), [.tm 2]⟩,
  ⟨(some 27), none, .mov, [.tm 1]⟩,
  ⟨(some 28), none, (.call 10), [.tm 26, .tm 27]⟩,
  ⟨(some 25), none, .mov, [.tm 28]⟩,
  ⟨(some 29), none, (.ext 0), [.tm 25]⟩,
  ⟨(some 30), none, (.ext 1), [.tm 25]⟩,
  ⟨(some 5), none, .mov, [.tm 29]⟩,
  ⟨(some 6), none, .mov, [.tm 30]⟩])
 (.seq (.region [⟨(some 32), none, (.load true 5), [.tm 2]⟩,
  ⟨(some 33), none, .mov, [.tm 1]⟩,
  ⟨(some 34), none, (.call 14), [.tm 32, .tm 33]⟩,
  ⟨(some 31), none, .mov, [.tm 34]⟩,
  ⟨(some 35), none, (.ext 0), [.tm 31]⟩,
  ⟨(some 36), none, (.ext 1), [.tm 31]⟩,
  ⟨(some 37), none, (.ext 2), [.tm 31]⟩,
  ⟨(some 7), none, .mov, [.tm 35]⟩,
  ⟨(some 8), none, .mov, [.tm 36]⟩,
  ⟨(some 9), none, .mov, [.tm 37]⟩])
 (.seq (.seq (.region [⟨(some 38), none, .mov, [.tm 6]⟩,
  ⟨(some 39), none, (.cmp .neq), [.tm 38, .cn (.int .i64 0)]⟩])
 (.cond (.tm 39) (.seq (.region [⟨(some 40), none, .mov, [.tm 6]⟩,
  ⟨(some 41), none, .mov, [.tm 9]⟩,
  ⟨(some 42), none, (.cmp .eql), [.tm 40, .tm 41]⟩,
  ⟨(some 43), none, .mov, [.tm 42]⟩,
  ⟨(some 44), (some (43, true)), (.call 9), []⟩,
  ⟨(some 45), none, .and, [.tm 43, .tm 44]⟩,
  ⟨(some 4), none, .mov, [.tm 45]⟩])
 .ret)
  .skip))
 (.seq (.seq (.region [⟨(some 46), none, .mov, [.tm 9]⟩,
  ⟨(some 47), none, (.cmp .neq), [.tm 46, .cn (.int .i64 0)]⟩,
  ⟨(some 48), none, .mov, [.tm 47]⟩,
  ⟨(some 49), (some (48, false)), .mov, [.tm 5]⟩,
  ⟨(some 50), (some (48, false)), .len, [.tm 49]⟩,
  ⟨(some 51), (some (48, false)), .mov, [.tm 1]⟩,
  ⟨(some 52), (some (48, false)), .len, [.tm 51]⟩,
  ⟨(some 53), (some (48, false)), (.cmp .neq), [.tm 50, .tm 52]⟩,
  ⟨(some 54), none, .or, [.tm 48, .tm 53]⟩])
 (.cond (.tm 54) (.seq (.region [⟨(some 4), none, .mov, [.cn (.bool false)]⟩])
 .ret)
  .skip))
 (.seq (.draw [] [⟨⟨(some 55), none, (.fieldAddr 0), [.tm 2]⟩, []⟩,
  ⟨⟨(some 56), none, (.load false 1), [.tm 55]⟩, []⟩,
  ⟨⟨(some 57), none, (.fieldAddr 0), [.tm 2]⟩, []⟩,
  ⟨⟨(some 58), none, (.load false 1), [.tm 57]⟩, []⟩,
  ⟨⟨(some 10), none, .mov, [.tm 56]⟩, []⟩,
  ⟨⟨(some 11), none, .mov, [.tm 58]⟩, []⟩])
 (.seq (.region [⟨(some 12), none, .mov, [.cn (.int .i64 (-1))]⟩,
  ⟨(some 13), none, .mov, [.cn (.int .i64 (-1))]⟩])
 (.seq (.seq (.region [⟨(some 14), none, .mov, [.cn (.int .i64 0)]⟩])
 (.block 0 (.loop (.seq (.seq (.region [⟨(some 59), none, .mov, [.tm 14]⟩,
  ⟨(some 60), none, .mov, [.tm 1]⟩,
  ⟨(some 61), none, .len, [.tm 60]⟩,
  ⟨(some 62), none, (.cmp .lss), [.tm 59, .tm 61]⟩])
 (.cond (.tm 62) .skip
  (.exit 0)))
 (.seq (.block 1 (.seq (.draw [] [⟨⟨(some 66), none, (.load true 5), [.tm 2]⟩, []⟩,
  ⟨⟨(some 67), none, .mov, [.tm 10]⟩, []⟩,
  ⟨⟨(some 68), none, (.fieldAddr 3), [.tm 2]⟩, []⟩,
  ⟨⟨(some 69), none, (.fieldAddr 0), [.tm 68]⟩, []⟩,
  ⟨⟨(some 70), none, (.load false 1), [.tm 69]⟩, []⟩,
  ⟨⟨(some 71), none, .mov, [.tm 1]⟩, []⟩,
  ⟨⟨(some 72), none, .mov, [.tm 14]⟩, []⟩,
  ⟨⟨(some 73), none, (.idxAddr 2), [.tm 71, .tm 72]⟩, []⟩,
  ⟨⟨(some 74), none, (.fieldAddr 1), [.tm 73]⟩, []⟩,
  ⟨⟨(some 75), none, (.load false 1), [.tm 74]⟩, []⟩,
  ⟨⟨(some 76), none, (.call 23), [.tm 66, .tm 67, .tm 70, .tm 75]⟩, []⟩,
  ⟨⟨(some 65), none, .mov, [.tm 76]⟩, []⟩,
  ⟨⟨(some 77), none, (.ext 0), [.tm 65]⟩, []⟩,
  ⟨⟨(some 78), none, (.ext 1), [.tm 65]⟩, []⟩,
  ⟨⟨(some 79), none, (.ext 2), [.tm 65]⟩, []⟩,
  ⟨⟨(some 15), none, .mov, [.tm 77]⟩, []⟩,
  ⟨⟨(some 16), none, .mov, [.tm 78]⟩, []⟩,
  ⟨⟨(some 17), none, .mov, [.tm 79]⟩, []⟩])
 (.seq (.draw [] [⟨⟨(some 81), none, (.load true 5), [.tm 2]⟩, []⟩,
  ⟨⟨(some 82), none, .mov, [.tm 11]⟩, []⟩,
  ⟨⟨(some 83), none, (.fieldAddr 3), [.tm 2]⟩, []⟩,
  ⟨⟨(some 84), none, (.fieldAddr 1), [.tm 83]⟩, []⟩,
  ⟨⟨(some 85), none, (.load false 1), [.tm 84]⟩, []⟩,
  ⟨⟨(some 86), none, .mov, [.tm 1]⟩, []⟩,
  ⟨⟨(some 87), none, .mov, [.tm 14]⟩, []⟩,
  ⟨⟨(some 88), none, (.idxAddr 2), [.tm 86, .tm 87]⟩, []⟩,
  ⟨⟨(some 89), none, (.fieldAddr 0), [.tm 88]⟩, []⟩,
  ⟨⟨(some 90), none, (.load false 1), [.tm 89]⟩, []⟩,
  ⟨⟨(some 91), none, (.call 23), [.tm 81, .tm 82, .tm 85, .tm 90]⟩, []⟩,
  ⟨⟨(some 80), none, .mov, [.tm 91]⟩, []⟩,
  ⟨⟨(some 92), none, (.ext 0), [.tm 80]⟩, []⟩,
  ⟨⟨(some 93), none, (.ext 1), [.tm 80]⟩, []⟩,
  ⟨⟨(some 94), none, (.ext 2), [.tm 80]⟩, []⟩,
  ⟨⟨(some 18), none, .mov, [.tm 92]⟩, []⟩,
  ⟨⟨(some 19), none, .mov, [.tm 93]⟩, []⟩,
  ⟨⟨(some 20), none, .mov, [.tm 94]⟩, []⟩])
 (.seq (.seq (.draw [] [⟨⟨(some 95), none, .mov, [.tm 5]⟩, []⟩,
  ⟨⟨(some 96), none, .mov, [.tm 14]⟩, []⟩,
  ⟨⟨(some 97), none, (.idxAddr 2), [.tm 95, .tm 96]⟩, []⟩,
  ⟨⟨(some 98), none, (.load true 2), [.tm 97]⟩, []⟩,
  ⟨⟨(some 99), none, .mov, [.tm 15]⟩, []⟩,
  ⟨⟨(some 100), none, .mov, [.tm 18]⟩, []⟩,
  ⟨⟨(some 101), none, (.call 26), [.tm 99, .tm 100]⟩, []⟩,
  ⟨⟨(some 102), none, (.eqv true [true, true]), [.tm 98, .tm 101]⟩, []⟩])
 (.cond (.tm 102) (.seq (.region [⟨(some 4), none, .mov, [.cn (.bool false)]⟩])
 .ret)
  .skip))
 (.seq (.seq (.region [⟨(some 103), none, .mov, [.tm 17]⟩,
  ⟨(some 104), none, .mov, [.tm 103]⟩,
  ⟨(some 105), (some (104, true)), .mov, [.tm 12]⟩,
  ⟨(some 106), (some (104, true)), (.cmp .lss), [.tm 105, .cn (.int .i64 0)]⟩,
  ⟨(some 107), none, .and, [.tm 104, .tm 106]⟩])
 (.cond (.tm 107) (.region [⟨(some 108), none, .mov, [.tm 14]⟩,
  ⟨(some 12), none, .mov, [.tm 108]⟩])
  .skip))
 (.seq (.seq (.region [⟨(some 109), none, .mov, [.tm 20]⟩,
  ⟨(some 110), none, .mov, [.tm 109]⟩,
  ⟨(some 111), (some (110, true)), .mov, [.tm 13]⟩,
  ⟨(some 112), (some (110, true)), (.cmp .lss), [.tm 111, .cn (.int .i64 0)]⟩,
  ⟨(some 113), none, .and, [.tm 110, .tm 112]⟩])
 (.cond (.tm 113) (.region [⟨(some 114), none, .mov, [.tm 14]⟩,
  ⟨(some 13), none, .mov, [.tm 114]⟩])
  .skip))
 (.region [⟨(some 115), none, .mov, [.tm 15]⟩,
  ⟨(some 116), none, .mov, [.tm 18]⟩,
  ⟨(some 10), none, .mov, [.tm 115]⟩,
  ⟨(some 11), none, .mov, [.tm 116]⟩])))))))
 (.region [⟨(some 63), none, .mov, [.tm 14]⟩,
  ⟨(some 64), none, (.ari .add), [.tm 63, .cn (.int .i64 1)]⟩,
  ⟨(some 14), none, .mov, [.tm 64]⟩]))))))
 (.seq (.region [⟨(some 117), none, .mov, [.tm 7]⟩,
  ⟨(some 118), none, .mov, [.tm 12]⟩,
  ⟨(some 119), none, (.cmp .eql), [.tm 117, .tm 118]⟩,
  ⟨(some 120), none, .mov, [.tm 119]⟩,
  ⟨(some 121), (some (120, true)), .mov, [.tm 8]⟩,
  ⟨(some 122), (some (120, true)), .mov, [.tm 13]⟩,
  ⟨(some 123), (some (120, true)), (.cmp .eql), [.tm 121, .tm 122]⟩,
  ⟨(some 124), none, .and, [.tm 120, .tm 123]⟩,
  ⟨(some 125), none, .mov, [.tm 124]⟩,
  ⟨(some 126), (some (125, true)), (.call 9), []⟩,
  ⟨(some 127), none, .and, [.tm 125, .tm 126]⟩,
  ⟨(some 4), none, .mov, [.tm 127]⟩])
 .ret)))))))))) }
theorem v6_is : vfunc Try.prog Try.f6 = some v6 := by kernel_rfl
def v7 : VF := { ntmps := 122, res := [.tmp 4], body :=
 (.seq (.region [⟨(some 2), none, .box, [.tm 0]⟩,
  ⟨(some 4), none, .mov, [.cn (.bool false)]⟩])
 (.seq (.seq (.region [⟨(some 17), none, .mov, [.tm 1]⟩,
  ⟨(some 18), none, .len, [.tm 17]⟩,
  ⟨(some 19), none, (.cmp .gtr), [.tm 18, .cn (.int .i64 200)]⟩])
 (.cond (.tm 19) (.seq (.region [⟨(some 20), none, (.call 9), []⟩,
  ⟨(some 4), none, .mov, [.tm 20]⟩])
 .ret)
  .skip))
 (.seq (.region [⟨(some 22), none, (.load true 5), [.tm 2]⟩,
  ⟨(some 23), none, .mov, [.tm 1]⟩,
  ⟨(some 24), none, (.call 21), [.tm 22, .tm 23]⟩,
  ⟨(some 21), none, .mov, [.tm 24]⟩,
  ⟨(some 25), none, (.ext 0), [.tm 21]⟩,
  ⟨(some 26), none, (.ext 1), [.tm 21]⟩,
  ⟨(some 5), none, .mov, [.tm 25]⟩,
  ⟨(some 6), none, .mov, [.tm 26]⟩])
 (.seq (.region [⟨(some 28), none, (.load true 5), [.tm 2]⟩,
  ⟨(some 29), none, .mov, [.tm 1]⟩,
  ⟨(some 30), none, (.call 14), [.tm 28, .tm 29]⟩,
  ⟨(some 27), none, .mov, [.tm 30]⟩,
  ⟨(some 31), none, (.ext 0), [.tm 27]⟩,
  ⟨(some 32), none, (.ext 1), [.tm 27]⟩,
  ⟨(some 33), none, (.ext 2), [.tm 27]⟩,
  ⟨(some 7), none, .mov, [.tm 31]⟩,
  ⟨(some 8), none, .mov, [.tm 32]⟩,
  ⟨(some 9), none, .mov, [.tm 33]⟩])
 (.seq (.seq (.region [⟨(some 34), none, .mov, [.tm 9]⟩,
  ⟨(some 35), none, (.cmp .neq), [.tm 34, .cn (.int .i64 0)]⟩])
 (.cond (.tm 35) (.seq (.region [⟨(some 36), none, .mov, [.tm 6]⟩,
  ⟨(some 37), none, .mov, [.tm 9]⟩,
  ⟨(some 38), none, (.cmp .eql), [.tm 36, .tm 37]⟩,
  ⟨(some 39), none, .mov, [.tm 38]⟩,
  ⟨(some 40), (some (39, true)), (.call 9), []⟩,
  ⟨(some 41), none, .and, [.tm 39, .tm 40]⟩,
  ⟨(some 4), none, .mov, [.tm 41]⟩])
 .ret)
  .skip))
 (.seq (.seq (.region [⟨(some 42), none, .mov, [.tm 6]⟩,
  ⟨(some 43), none, (.cmp .neq), [.tm 42, .cn (.int .i64 0)]⟩])
 (.cond (.tm 43) (.seq (.region [⟨(some 44), none, .mov, [.tm 6]⟩,
  ⟨(some 45), none, (.cmp .eql), [.tm 44, .cn (.int .i64 4)]⟩,
  ⟨(some 46), none, .mov, [.tm 45]⟩,
  ⟨(some 47), (some (46, true)), .mov, [.tm 5]⟩,
  ⟨(some 48), (some (46, true)), (.cmp .eql), [.tm 47, .cn (.int .i64 0)]⟩,
  ⟨(some 49), none, .and, [.tm 46, .tm 48]⟩,
  ⟨(some 50), none, .mov, [.tm 49]⟩,
  ⟨(some 51), (some (50, true)), .mov, [.tm 7]⟩,
  ⟨(some 52), (some (50, true)), (.cmp .geq), [.tm 51, .cn (.int .i64 0)]⟩,
  ⟨(some 53), none, .and, [.tm 50, .tm 52]⟩,
  ⟨(some 54), none, .mov, [.tm 53]⟩,
  ⟨(some 55), (some (54, true)), (.call 9), []⟩,
  ⟨(some 56), none, .and, [.tm 54, .tm 55]⟩,
  ⟨(some 4), none, .mov, [.tm 56]⟩])
 .ret)
  .skip))
 (.seq (.seq (.region [⟨(some 57), none, .mov, [.tm 5]⟩,
  ⟨(some 58), none, (.cmp .lss), [.tm 57, .cn (.int .i64 0)]⟩,
  ⟨(some 59), none, .mov, [.tm 58]⟩,
  ⟨(some 60), (some (59, false)), .mov, [.tm 5]⟩,
  ⟨(some 61), (some (59, false)), (.fieldAddr 2), [.tm 2]⟩,
  ⟨(some 62), (some (59, false)), (.load false 1), [.tm 61]⟩,
  ⟨(some 63), (some (59, false)), (.cmp .gtr), [.tm 60, .tm 62]⟩,
  ⟨(some 64), none, .or, [.tm 59, .tm 63]⟩,
  ⟨(some 65), none, .mov, [.tm 64]⟩,
  ⟨(some 66), (some (65, false)), .mov, [.tm 7]⟩,
  ⟨(some 67), (some (65, false)), (.cmp .lss), [.tm 66, .cn (.int .i64 0)]⟩,
  ⟨(some 68), (some (65, false)), .mov, [.tm 5]⟩,
  ⟨(some 69), (some (65, false)), (.fieldAddr 0), [.tm 2]⟩,
  ⟨(some 70), (some (65, false)), (.load false 1), [.tm 69]⟩,
  ⟨(some 71), (some (65, false)), (.cmp .leq), [.tm 68, .tm 70]⟩,
  ⟨(some 72), (some (65, false)), (.eqb true), [.tm 67, .tm 71]⟩,
  ⟨(some 73), none, .or, [.tm 65, .tm 72]⟩])
 (.cond (.tm 73) (.seq (.region [⟨(some 4), none, .mov, [.cn (.bool false)]⟩])
 .ret)
  .skip))
 (.seq (.region [⟨(some 74), none, (.load true 5), [.tm 2]⟩,
  ⟨(some 10), none, (.alloc [(.int .i64 0), (.int .i64 0), (.int .i64 0), (.int .i64 0), (.int .i64 0)]), []⟩,
  ⟨none, none, (.store 5), [.tm 10, .tm 74]⟩])
 (.seq (.region [⟨(some 75), none, .mov, [.tm 5]⟩,
  ⟨(some 76), none, (.fieldAddr 0), [.tm 10]⟩,
  ⟨none, none, (.store 1), [.tm 76, .tm 75]⟩])
 (.seq (.region [⟨(some 78), none, (.load true 5), [.tm 10]⟩,
  ⟨(some 79), none, .mov, [.tm 1]⟩,
  ⟨(some 80), none, (.call 14), [.tm 78, .tm 79]⟩,
  ⟨(some 77), none, .mov, [.tm 80]⟩,
  ⟨(some 81), none, (.ext 0), [.tm 77]⟩,
  ⟨(some 82), none, (.ext 1), [.tm 77]⟩,
  ⟨(some 83), none, (.ext 2), [.tm 77]⟩,
  ⟨(some 11), none, .mov, [.tm 81]⟩,
  ⟨(some 12), none, .mov, [.tm 82]⟩,
  ⟨(some 13), none, .mov, [.tm 83]⟩])
 (.seq (.seq (.region [⟨(some 84), none, .mov, [.tm 5]⟩,
  ⟨(some 85), none, (.cmp .eql), [.tm 84, .cn (.int .i64 0)]⟩])
 (.cond (.tm 85) (.seq (.region [⟨(some 86), none, .mov, [.tm 13]⟩,
  ⟨(some 87), none, (.cmp .eql), [.tm 86, .cn (.int .i64 0)]⟩,
  ⟨(some 88), none, .mov, [.tm 87]⟩,
  ⟨(some 89), (some (88, true)), .mov, [.tm 11]⟩,
  ⟨(some 90), (some (88, true)), (.cmp .eql), [.tm 89, .cn (.int .i64 (-1))]⟩,
  ⟨(some 91), none, .and, [.tm 88, .tm 90]⟩,
  ⟨(some 92), none, .mov, [.tm 91]⟩,
  ⟨(some 93), (some (92, true)), (.call 9), []⟩,
  ⟨(some 94), none, .and, [.tm 92, .tm 93]⟩,
  ⟨(some 4), none, .mov, [.tm 94]⟩])
 .ret)
  .skip))
 (.seq (.region [⟨(some 95), none, .mov, [.tm 5]⟩,
  ⟨(some 96), none, (.ari .sub), [.tm 95, .cn (.int .i64 1)]⟩,
  ⟨(some 97), none, (.fieldAddr 0), [.tm 10]⟩,
  ⟨none, none, (.store 1), [.tm 97, .tm 96]⟩])
 (.seq (.region [⟨(some 99), none, (.load true 5), [.tm 10]⟩,
  ⟨(some 100), none, .mov, [.tm 1]⟩,
  ⟨(some 101), none, (.call 14), [.tm 99, .tm 100]⟩,
  ⟨(some 98), none, .mov, [.tm 101]⟩,
  ⟨(some 102), none, (.ext 0), [.tm 98]⟩,
  ⟨(some 103), none, (.ext 1), [.tm 98]⟩,
  ⟨(some 104), none, (.ext 2), [.tm 98]⟩,
  ⟨(some 14), none, .mov, [.tm 102]⟩,
  ⟨(some 15), none, .mov, [.tm 103]⟩,
  ⟨(some 16), none, .mov, [.tm 104]⟩])
 (.seq (.region [⟨(some 105), none, .mov, [.tm 13]⟩,
  ⟨(some 106), none, (.cmp .eql), [.tm 105, .cn (.int .i64 0)]⟩,
  ⟨(some 107), none, .mov, [.tm 106]⟩,
  ⟨(some 108), (some (107, true)), .mov, [.tm 16]⟩,
  ⟨(some 109), (some (107, true)), (.cmp .eql), [.tm 108, .cn (.int .i64 0)]⟩,
  ⟨(some 110), none, .and, [.tm 107, .tm 109]⟩,
  ⟨(some 111), none, .mov, [.tm 110]⟩,
  ⟨(some 112), (some (111, true)), .mov, [.tm 11]⟩,
  ⟨(some 113), (some (111, true)), (.cmp .eql), [.tm 112, .cn (.int .i64 (-1))]⟩,
  ⟨(some 114), none, .and, [.tm 111, .tm 113]⟩,
  ⟨(some 115), none, .mov, [.tm 114]⟩,
  ⟨(some 116), (some (115, true)), .mov, [.tm 14]⟩,
  ⟨(some 117), (some (115, true)), (.cmp .geq), [.tm 116, .cn (.int .i64 0)]⟩,
  ⟨(some 118), none, .and, [.tm 115, .tm 117]⟩,
  ⟨(some 119), none, .mov, [.tm 118]⟩,
  ⟨(some 120), (some (119, true)), (.call 9), []⟩,
  ⟨(some 121), none, .and, [.tm 119, .tm 120]⟩,
  ⟨(some 4), none, .mov, [.tm 121]⟩])
 .ret)))))))))))))) }
theorem v7_is : vfunc Try.prog Try.f7 = some v7 := by kernel_rfl


theorem lawAttained : (lawC lawR).ok Try.prog 6 := by
  refine contract Try.func6 v6_is L1_ok 800 (lawC lawR) fun args k h => ?_
  obtain ⟨ha, hk⟩ := h
  obtain ⟨_, _, rfl, h1, e1⟩ := okPL_cons_inv ha
  obtain ⟨cs, rfl, hcs⟩ := okP_agg_inv h1
  obtain ⟨v, _, rfl, h2, e2⟩ := okPL_cons_inv e1
  cases okPL_nil_inv e2
  obtain ⟨⟨st, lo, hi, il, ih⟩, rfl⟩ := bel_of hcs
  obtain ⟨z, l, hmax, hle⟩ := ivs_of (okP_one_inv h2)
  rw [maxLen_eq] at hmax
  refine ⟨[.agg [.int .i64 st, .int .i64 lo, .int .i64 hi, .int .i64 il, .int .i64 ih], .vs false z l.length 2 (fun k => enc2 (l.getD k default))], ⟨leXL_le _ _ (leXL_self _) (by simp only [bndL_cons, bndL_nil, bnd_vs, bnd_int, and_self]), leX_le _ _ hle trivial, trivial⟩, ?_⟩
  dsimp only [v6, L1_ct9, trueC, L1_ct10, runC, L1_ct14, failsC, demC, ivsR, enc2, r_end, r_end1, r_nil, r_op, r_opg, r_runOp, r_op0, r_yld0, r_yld1, r_y, r_rbeg, r_rend, r_rend1, r_rfrm, r_rfrm1, r_range, r_rangeK, r_rangeE, r_draw, r_dnil, r_dop, r_dopg, r_dplq, r_dplh, r_dq, r_dq0, r_dcl1, r_dcl0, r_dct1, r_dct0, r_dgd, r_dgq1, r_dgq0, r_dctG, r_op1, r_eff, r_eff0, r_call, r_call0, r_inl, r_g, r_gq, r_gc, r_effg, r_effg0, r_callg, r_callg0, r_fin, r_pre, r_imp, r_all, r_ex, r_fing, r_preg, r_exg, r_inBlock, r_inLoop, r_frame, r_frame1, r_skip, r_region, r_seq, r_cond, r_cond1, r_block, r_exit, r_exit1, r_exit2, r_ret, r_loop, s_args0, s_args1, s_xt, s_xc, padL, blankL, callee, callArgs, eff, ctOf, getL, setL, S.put, S.upd, unopts, unopt, unoptsO, unoptsB, lazyO, guardOf, gbool, eMov, eNot, eNeg, eConv, eExt, eLenArr, eLen, eLenStr, eEqb, eEqv, allEq, eNil, negIf, eBool2, eCmp, eAri, ari, eBit, eDiv, eSh, eMinMax, foldMin, foldMax, kEq, pure1, cmpB, VO.quiet, resVals, resVal, tupled, popRet, popTo, cond, Option.bind, Option.map, eNew, eBox, asCells, lenH, snocH, eFieldAddr, eField, eLoad, cellsAt, getH, setH, dropL, takeL, mkAgg, lenL, lenS, shift, shiftL, shiftH, viewN, viewL, view, andT, junks, List.append_nil, Nat.beq, eIdxAddr, eIdxArr, eIndex, eStore, storeAt, spliceL, ones, one, eSlice, eSliceArr, bounds, subLo, addLo, eMake, eAppend, readS, repL, buildCells, chunk, purgeL, purgeLL, purgeH, purge, refs, refsL, List.cons_append, List.nil_append, wrOps, wrAl, wrDops, wrC, junkAt, putAll, putHs, headOf, headK, keepG, List.append_eq, headX, chkP, apartP, apartB, blk, strip, runAl, yld, putPs, lenN, findR, notRound, jumpK, jumpPT, jcode, List.map_cons, List.map_nil, ite_self, reduceIte]
  simp only [true_and, and_true, imp_self, implies_true, decide_eq_true_eq, decide_eq_false_iff_not, Nat.reduceAdd, Nat.reduceLeDiff, Bool.not_not, reduceCtorEq, false_imp_iff, Bool.not_eq_true', Bool.not_eq_false', Bool.false_eq_true, and_self, forall_const, ne_eq, not_false_eq_true, Nat.reduceEqDiff]
  have hk' : k (.bool true) [] := hk
  refine ⟨fun _ => ans_bool hk, fun hlt => ⟨l, ⟨lsP_self, hmax⟩, by decide, by decide, l, ⟨lsP_self, hmax⟩, by decide, by decide, by decide, fun he => ans_bool ?_, fun he => ?_⟩⟩
  · rw [run_err, fails_err]; simpa using hk'
  · rw [run_err] at he
    simp only [run_is he, fails_is he]
    refine ⟨fun hc => ?_, fun hc => ?_⟩
    · simp [run_len] at hc
    · obtain ⟨hb, h1000, hd⟩ := ask_ok he
      have hne := fit_ne (fit_il hb)
      have hbo := bel_ok hb
      refine Loop.keep [1, 0, 2, 1, 0, 1, 0, 0, 0, 0] Nat (fun i => [(10, .int .i64 (volAt ⟨st, lo, hi, il, ih⟩ il true (l.take i) st)), (11, .int .i64 (volAt ⟨st, lo, hi, il, ih⟩ ih false (l.take i) st)), (12, .int .i64 (failT ⟨st, lo, hi, il, ih⟩ il true l st i)), (13, .int .i64 (failT ⟨st, lo, hi, il, ih⟩ ih false l st i)), (14, .int .i64 i)]) (fun _ => []) [] (fun i => i ≤ l.length) (fun i => l.length - i) ?_ ?_
      · refine ⟨0, Nat.zero_le _, ?_⟩
        dsimp only [volAt, failT, List.take_zero, List.foldl_nil, enc2, r_end, r_end1, r_nil, r_op, r_opg, r_runOp, r_op0, r_yld0, r_yld1, r_y, r_rbeg, r_rend, r_rend1, r_rfrm, r_rfrm1, r_range, r_rangeK, r_rangeE, r_draw, r_dnil, r_dop, r_dopg, r_dplq, r_dplh, r_dq, r_dq0, r_dcl1, r_dcl0, r_dct1, r_dct0, r_dgd, r_dgq1, r_dgq0, r_dctG, r_op1, r_eff, r_eff0, r_call, r_call0, r_inl, r_g, r_gq, r_gc, r_effg, r_effg0, r_callg, r_callg0, r_fin, r_pre, r_imp, r_all, r_ex, r_fing, r_preg, r_exg, r_inBlock, r_inLoop, r_frame, r_frame1, r_skip, r_region, r_seq, r_cond, r_cond1, r_block, r_exit, r_exit1, r_exit2, r_ret, r_loop, s_args0, s_args1, s_xt, s_xc, padL, blankL, callee, callArgs, eff, ctOf, getL, setL, S.put, S.upd, unopts, unopt, unoptsO, unoptsB, lazyO, guardOf, gbool, eMov, eNot, eNeg, eConv, eExt, eLenArr, eLen, eLenStr, eEqb, eEqv, allEq, eNil, negIf, eBool2, eCmp, eAri, ari, eBit, eDiv, eSh, eMinMax, foldMin, foldMax, kEq, pure1, cmpB, VO.quiet, resVals, resVal, tupled, popRet, popTo, cond, Option.bind, Option.map, eNew, eBox, asCells, lenH, snocH, eFieldAddr, eField, eLoad, cellsAt, getH, setH, dropL, takeL, mkAgg, lenL, lenS, shift, shiftL, shiftH, viewN, viewL, view, andT, junks, List.append_nil, Nat.beq, eIdxAddr, eIdxArr, eIndex, eStore, storeAt, spliceL, ones, one, eSlice, eSliceArr, bounds, subLo, addLo, eMake, eAppend, readS, repL, buildCells, chunk, purgeL, purgeLL, purgeH, purge, refs, refsL, List.cons_append, List.nil_append, wrOps, wrAl, wrDops, wrC, junkAt, putAll, putHs, headOf, headK, keepG, List.append_eq, headX, chkP, apartP, apartB, blk, strip, runAl, yld, putPs, lenN, findR, notRound, jumpK, jumpPT, jcode, List.map_cons, List.map_nil, ite_self, reduceIte]
        simp only [leS_mk, leL_cons, leL_nil, le_junk, le_int, le_bool, le_nil, leLL_nil, leLL_cons, leH_cons, leH_nil, leH1_box, leH1_own, leH1_gone, le_vs, le_agg, le_tup, le_ptr, le_own, le_xp, le_fn, le_opt, le_val, le_elem, le_nil_own, le_nil_vs, leH_ghost, leL_chunk, leXL_id, bnd_int, bnd_bool, bnd_val, bnd_nil, bnd_junk, bnd_vs, bnd_xp, bnd_agg, bnd_tup, bnd_ptr, bnd_own, bnd_elem, bnd_fn, bnd_iface, bnd_opt, bndL_nil, bndL_cons, lenH_cons, lenH_nil, imp_self, implies_true, true_and, and_true] <;> simp
      · intro i hi'
        dsimp only [L1_ct9, trueC, L1_ct23, tickC, L1_ct26, ivC, enc2, Int.toNat_natCast, r_end, r_end1, r_nil, r_op, r_opg, r_runOp, r_op0, r_yld0, r_yld1, r_y, r_rbeg, r_rend, r_rend1, r_rfrm, r_rfrm1, r_range, r_rangeK, r_rangeE, r_draw, r_dnil, r_dop, r_dopg, r_dplq, r_dplh, r_dq, r_dq0, r_dcl1, r_dcl0, r_dct1, r_dct0, r_dgd, r_dgq1, r_dgq0, r_dctG, r_op1, r_eff, r_eff0, r_call, r_call0, r_inl, r_g, r_gq, r_gc, r_effg, r_effg0, r_callg, r_callg0, r_fin, r_pre, r_imp, r_all, r_ex, r_fing, r_preg, r_exg, r_inBlock, r_inLoop, r_frame, r_frame1, r_skip, r_region, r_seq, r_cond, r_cond1, r_block, r_exit, r_exit1, r_exit2, r_ret, r_loop, s_args0, s_args1, s_xt, s_xc, padL, blankL, callee, callArgs, eff, ctOf, getL, setL, S.put, S.upd, unopts, unopt, unoptsO, unoptsB, lazyO, guardOf, gbool, eMov, eNot, eNeg, eConv, eExt, eLenArr, eLen, eLenStr, eEqb, eEqv, allEq, eNil, negIf, eBool2, eCmp, eAri, ari, eBit, eDiv, eSh, eMinMax, foldMin, foldMax, kEq, pure1, cmpB, VO.quiet, resVals, resVal, tupled, popRet, popTo, cond, Option.bind, Option.map, eNew, eBox, asCells, lenH, snocH, eFieldAddr, eField, eLoad, cellsAt, getH, setH, dropL, takeL, mkAgg, lenL, lenS, shift, shiftL, shiftH, viewN, viewL, view, andT, junks, List.append_nil, Nat.beq, eIdxAddr, eIdxArr, eIndex, eStore, storeAt, spliceL, ones, one, eSlice, eSliceArr, bounds, subLo, addLo, eMake, eAppend, readS, repL, buildCells, chunk, purgeL, purgeLL, purgeH, purge, refs, refsL, List.cons_append, List.nil_append, wrOps, wrAl, wrDops, wrC, junkAt, putAll, putHs, headOf, headK, keepG, List.append_eq, headX, chkP, apartP, apartB, blk, strip, runAl, yld, putPs, lenN, findR, notRound, jumpK, jumpPT, jcode, List.map_cons, List.map_nil, ite_self, reduceIte]
        simp only [true_and, and_true, imp_self, implies_true, decide_eq_true_eq, decide_eq_false_iff_not, Nat.reduceAdd, Nat.reduceLeDiff, Bool.not_not, reduceCtorEq, false_imp_iff, Bool.not_eq_true', Bool.not_eq_false', Bool.false_eq_true, and_self, forall_const, ne_eq, not_false_eq_true, Nat.reduceEqDiff]
        refine ⟨fun hlt => ?_, fun hge => ?_⟩
        · have hil : i < l.length := by omega
          have t1 : tickF ⟨st, lo, hi, il, ih⟩ (volAt ⟨st, lo, hi, il, ih⟩ il true (l.take i) st) il (l.getD i default).2 = _ := tick_vol (w := true) (fit_il hb) hbo.2.2.2.1 hbo.2.2.2.2.1 hd hil
          have t2 : tickF ⟨st, lo, hi, il, ih⟩ (volAt ⟨st, lo, hi, il, ih⟩ ih false (l.take i) st) ih (l.getD i default).1 = _ := tick_vol (w := false) (fit_ih hb) hbo.2.2.2.1 hbo.2.2.2.2.1 hd hil
          rw [t1, t2]
          have hs := w_succ (i := i) (n := l.length) (by omega) (by omega)
          have hv := run_get (b := ⟨st, lo, hi, il, ih⟩) hil
          simp only [run_len, hv]
          refine ⟨⟨by omega, hlt⟩, hne, by decide, by decide, by decide, ⟨by omega, hlt⟩, hne, by decide, by decide, by decide, ⟨by omega, hlt⟩, fun h => absurd h (by simp), fun _ => ⟨fun c1 => ⟨fun c2 => ?_, fun c2 => ?_⟩, fun c1 => ⟨fun c2 => ?_, fun c2 => ?_⟩⟩⟩ <;>
          · refine ⟨i + 1, by omega, by omega, ?_⟩
            rw [failT_succ, failT_succ, c1, c2]
            simp only [hs, Bool.or_self, if_true, if_false, Bool.false_eq_true, leS_mk, leL_cons, leL_nil, le_junk, le_int, le_bool, le_nil, leLL_nil, leLL_cons, leH_cons, leH_nil, leH1_box, leH1_own, leH1_gone, le_vs, le_agg, le_tup, le_ptr, le_own, le_xp, le_fn, le_opt, le_val, le_elem, le_nil_own, le_nil_vs, leH_ghost, leL_chunk, leXL_id, bnd_int, bnd_bool, bnd_val, bnd_nil, bnd_junk, bnd_vs, bnd_xp, bnd_agg, bnd_tup, bnd_ptr, bnd_own, bnd_elem, bnd_fn, bnd_iface, bnd_opt, bndL_nil, bndL_cons, lenH_cons, lenH_nil, imp_self, implies_true, true_and, and_true]
            try simp
        · obtain rfl : i = l.length := by omega
          refine ans_bool ?_
          rw [failT_all, failT_all]
          simpa using hk'

theorem lawNeeds : (lawC lawR).ok Try.prog 7 := by
  refine contract Try.func7 v7_is L1_ok 800 (lawC lawR) fun args k h => ?_
  obtain ⟨ha, hk⟩ := h
  obtain ⟨_, _, rfl, h1, e1⟩ := okPL_cons_inv ha
  obtain ⟨cs, rfl, hcs⟩ := okP_agg_inv h1
  obtain ⟨v, _, rfl, h2, e2⟩ := okPL_cons_inv e1
  cases okPL_nil_inv e2
  obtain ⟨⟨st, lo, hi, il, ih⟩, rfl⟩ := bel_of hcs
  obtain ⟨z, l, hmax, hle⟩ := ivs_of (okP_one_inv h2)
  rw [maxLen_eq] at hmax
  refine ⟨[.agg [.int .i64 st, .int .i64 lo, .int .i64 hi, .int .i64 il, .int .i64 ih], .vs false z l.length 2 (fun k => enc2 (l.getD k default))], ⟨leXL_le _ _ (leXL_self _) (by simp only [bndL_cons, bndL_nil, bnd_vs, bnd_int, and_self]), leX_le _ _ hle trivial, trivial⟩, ?_⟩
  dsimp only [v7, L1_ct9, trueC, L1_ct21, needC, L1_ct14, failsC, demC, ivsR, enc2, r_end, r_end1, r_nil, r_op, r_opg, r_runOp, r_op0, r_yld0, r_yld1, r_y, r_rbeg, r_rend, r_rend1, r_rfrm, r_rfrm1, r_range, r_rangeK, r_rangeE, r_draw, r_dnil, r_dop, r_dopg, r_dplq, r_dplh, r_dq, r_dq0, r_dcl1, r_dcl0, r_dct1, r_dct0, r_dgd, r_dgq1, r_dgq0, r_dctG, r_op1, r_eff, r_eff0, r_call, r_call0, r_inl, r_g, r_gq, r_gc, r_effg, r_effg0, r_callg, r_callg0, r_fin, r_pre, r_imp, r_all, r_ex, r_fing, r_preg, r_exg, r_inBlock, r_inLoop, r_frame, r_frame1, r_skip, r_region, r_seq, r_cond, r_cond1, r_block, r_exit, r_exit1, r_exit2, r_ret, r_loop, s_args0, s_args1, s_xt, s_xc, padL, blankL, callee, callArgs, eff, ctOf, getL, setL, S.put, S.upd, unopts, unopt, unoptsO, unoptsB, lazyO, guardOf, gbool, eMov, eNot, eNeg, eConv, eExt, eLenArr, eLen, eLenStr, eEqb, eEqv, allEq, eNil, negIf, eBool2, eCmp, eAri, ari, eBit, eDiv, eSh, eMinMax, foldMin, foldMax, kEq, pure1, cmpB, VO.quiet, resVals, resVal, tupled, popRet, popTo, cond, Option.bind, Option.map, eNew, eBox, asCells, lenH, snocH, eFieldAddr, eField, eLoad, cellsAt, getH, setH, dropL, takeL, mkAgg, lenL, lenS, shift, shiftL, shiftH, viewN, viewL, view, andT, junks, List.append_nil, Nat.beq, eIdxAddr, eIdxArr, eIndex, eStore, storeAt, spliceL, ones, one, eSlice, eSliceArr, bounds, subLo, addLo, eMake, eAppend, readS, repL, buildCells, chunk, purgeL, purgeLL, purgeH, purge, refs, refsL, List.cons_append, List.nil_append, wrOps, wrAl, wrDops, wrC, junkAt, putAll, putHs, headOf, headK, keepG, List.append_eq, headX, chkP, apartP, apartB, blk, strip, runAl, yld, putPs, lenN, findR, notRound, jumpK, jumpPT, jcode, List.map_cons, List.map_nil, ite_self, reduceIte]
  simp only [true_and, and_true, imp_self, implies_true, decide_eq_true_eq, decide_eq_false_iff_not, Nat.reduceAdd, Nat.reduceLeDiff, Bool.not_not, reduceCtorEq, false_imp_iff, Bool.not_eq_true', Bool.not_eq_false', Bool.false_eq_true, and_self, forall_const, ne_eq, not_false_eq_true, Nat.reduceEqDiff]
  have hk' : k (.bool true) [] := hk
  refine ⟨fun _ => ans_bool hk, fun hlt => ⟨l, ⟨lsP_self, hmax⟩, by decide, by decide, l, ⟨lsP_self, hmax⟩, by decide, by decide, by decide, ?_⟩⟩
  refine ⟨fun he => ans_bool ?_, fun he => ?_⟩
  · rw [fails_err] at he
    have e : needF ⟨st, lo, hi, il, ih⟩ l = (0, askF ⟨st, lo, hi, il, ih⟩ l) := by rw [needF, if_pos he]
    rw [e, fails_err]
    simpa using hk'
  · rw [fails_err] at he
    obtain ⟨hb, h1000, hd⟩ := ask_ok he
    have hbo := bel_ok hb
    rw [fails_is he]
    rcases need_law he with ⟨e, g⟩ | ⟨m, e, g1, g2, g3, g4⟩
    · rw [e]
      refine ⟨fun _ => ans_bool ?_, fun h => absurd h (by decide)⟩
      simp only at g
      simpa [g] using hk'
    · simp only [e]
      simp only at g1 g2 g3 g4
      refine ⟨fun h => absurd trivial h, fun _ => ⟨fun hc => ?_, fun _ => ⟨l, ⟨lsP_self, hmax⟩, by decide, by decide, by decide, fun h0 => ans_bool ?_, fun h0 => ⟨l, ⟨lsP_self, hmax⟩, by decide, by decide, by decide, ans_bool ?_⟩⟩⟩⟩
      · exfalso
        simp only [Bool.or_eq_true, decide_eq_true_eq, Bool.not_eq_true', beq_eq_false_iff_ne, ne_eq, decide_eq_decide] at hc
        rcases hc with (hc | hc) | hc
        · omega
        · omega
        · exact hc g2
      · have e2 := fails_is (ask_st (s := (m : Int)) he (by omega) g1)
        simp only at e2
        rw [e2]
        simp only [g3]
        simpa using hk'
      · have hw : IntKind.i64.wrap ((m : Int) - 1) = ((m - 1 : Nat) : Int) := by simp only at hbo; rw [w6_raw (by omega) (by omega)]; omega
        have e2 := fails_is (ask_st (s := (m : Int)) he (by omega) g1)
        have e3 := fails_is (ask_st (s := ((m - 1 : Nat) : Int)) he (by omega) (by simp only; omega))
        simp only at e2 e3
        rw [hw, e2, e3]
        have g5 := g4 (by omega)
        simp only [g3, g5]
        simpa using hk'
end Go.Proofs.Ytliipeebknljdaa
