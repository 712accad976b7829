/- Spans: what the laws begin with; the law of sets. -/
import Derived.Test.YtdognchniaojoaaSP4
set_option linter.all false
namespace Go.Proofs.Ytdognchniaojoaa
open Go Go.Vx
set_option maxRecDepth 100000
set_option maxHeartbeats 4000000

def v22 : VF := { ntmps := 8, res := [.cell 4 true 2], body :=
 (.seq (.region [⟨(some 4), none, (.alloc [(.int .i64 0), (.int .i64 0)]), []⟩])
 (.seq (.region [⟨(some 5), none, .mov, [.tm 0]⟩,
  ⟨(some 6), none, .mov, [.tm 1]⟩,
  ⟨(some 7), none, (.build [(.int .i64 0), (.int .i64 0)] [(0, 1), (1, 1)]), [.tm 5, .tm 6]⟩,
  ⟨none, none, (.store 2), [.tm 4, .tm 7]⟩])
 .ret)) }
theorem v22_is : vfunc Try.prog Try.f22 = some v22 := by kernel_rfl
def v16 : VF := { ntmps := 111, res := [.tmp 0], body :=
 (.seq (.region [⟨(some 0), none, .mov, [.cn (.bool false)]⟩])
 (.seq (.region [⟨(some 16), none, (.call 22), [.cn (.int .i64 (-2)), .cn (.int .i64 3)]⟩,
  ⟨(some 17), none, (.call 22), [.cn (.int .i64 (-7)), .cn (.int .i64 1)]⟩,
  ⟨(some 18), none, (.call 23), [.tm 16, .tm 17]⟩,
  ⟨(some 15), none, .mov, [.tm 18]⟩,
  ⟨(some 19), none, (.ext 0), [.tm 15]⟩,
  ⟨(some 20), none, (.ext 1), [.tm 15]⟩,
  ⟨(some 1), none, (.alloc [(.int .i64 0), (.int .i64 0)]), []⟩,
  ⟨none, none, (.store 2), [.tm 1, .tm 19]⟩,
  ⟨(some 2), none, .mov, [.tm 20]⟩])
 (.seq (.region [⟨(some 22), none, (.call 22), [.cn (.int .i64 7), .cn (.int .i64 8)]⟩,
  ⟨(some 23), none, (.call 22), [.cn (.int .i64 2), .cn (.int .i64 3)]⟩,
  ⟨(some 24), none, (.call 26), [.tm 22, .tm 23]⟩,
  ⟨(some 21), none, .mov, [.tm 24]⟩,
  ⟨(some 25), none, (.ext 0), [.tm 21]⟩,
  ⟨(some 26), none, (.ext 1), [.tm 21]⟩,
  ⟨(some 3), none, (.alloc [(.int .i64 0), (.int .i64 0)]), []⟩,
  ⟨none, none, (.store 2), [.tm 3, .tm 25]⟩,
  ⟨(some 4), none, .mov, [.tm 26]⟩])
 (.seq (.region [⟨(some 28), none, (.call 22), [.cn (.int .i64 10), .cn (.int .i64 11)]⟩,
  ⟨(some 29), none, (.call 10), [.tm 28, .cn (.int .i64 (-1)), .cn (.int .i64 3)]⟩,
  ⟨(some 27), none, .mov, [.tm 29]⟩,
  ⟨(some 30), none, (.ext 0), [.tm 27]⟩,
  ⟨(some 31), none, (.ext 1), [.tm 27]⟩,
  ⟨(some 5), none, (.alloc [(.int .i64 0), (.int .i64 0)]), []⟩,
  ⟨none, none, (.store 2), [.tm 5, .tm 30]⟩,
  ⟨(some 6), none, .mov, [.tm 31]⟩])
 (.seq (.region [⟨(some 33), none, (.call 22), [.cn (.int .i64 (-3)), .cn (.int .i64 2)]⟩,
  ⟨(some 34), none, (.call 12), [.tm 33, .cn (.int .i64 2)]⟩,
  ⟨(some 32), none, .mov, [.tm 34]⟩,
  ⟨(some 35), none, (.ext 0), [.tm 32]⟩,
  ⟨(some 36), none, (.ext 1), [.tm 32]⟩,
  ⟨(some 7), none, (.alloc [(.int .i64 0), (.int .i64 0)]), []⟩,
  ⟨none, none, (.store 2), [.tm 7, .tm 35]⟩,
  ⟨(some 8), none, .mov, [.tm 36]⟩])
 (.seq (.region [⟨(some 38), none, (.call 22), [.cn (.int .i64 10), .cn (.int .i64 10)]⟩,
  ⟨(some 39), none, (.call 14), [.tm 38, .cn (.int .i64 2)]⟩,
  ⟨(some 37), none, .mov, [.tm 39]⟩,
  ⟨(some 40), none, (.ext 0), [.tm 37]⟩,
  ⟨(some 41), none, (.ext 1), [.tm 37]⟩,
  ⟨(some 9), none, (.alloc [(.int .i64 0), (.int .i64 0)]), []⟩,
  ⟨none, none, (.store 2), [.tm 9, .tm 40]⟩,
  ⟨(some 10), none, .mov, [.tm 41]⟩])
 (.seq (.region [⟨(some 43), none, (.call 22), [.cn (.int .i64 1000000), .cn (.int .i64 1000000)]⟩,
  ⟨(some 44), none, (.call 17), [.tm 43]⟩,
  ⟨(some 42), none, .mov, [.tm 44]⟩,
  ⟨(some 45), none, (.ext 0), [.tm 42]⟩,
  ⟨(some 46), none, (.ext 1), [.tm 42]⟩,
  ⟨(some 11), none, (.alloc [(.int .i64 0), (.int .i64 0)]), []⟩,
  ⟨none, none, (.store 2), [.tm 11, .tm 45]⟩,
  ⟨(some 12), none, .mov, [.tm 46]⟩])
 (.seq (.region [⟨(some 48), none, (.call 22), [.cn (.int .i64 1000), .cn (.int .i64 1000)]⟩,
  ⟨(some 49), none, (.call 19), [.tm 48]⟩,
  ⟨(some 47), none, .mov, [.tm 49]⟩,
  ⟨(some 50), none, (.ext 0), [.tm 47]⟩,
  ⟨(some 51), none, (.ext 1), [.tm 47]⟩,
  ⟨(some 13), none, (.alloc [(.int .i64 0), (.int .i64 0)]), []⟩,
  ⟨none, none, (.store 2), [.tm 13, .tm 50]⟩,
  ⟨(some 14), none, .mov, [.tm 51]⟩])
 (.seq (.seq (.region [⟨(some 52), none, .mov, [.tm 2]⟩,
  ⟨(some 53), none, (.cmp .neq), [.tm 52, .cn (.int .i64 0)]⟩,
  ⟨(some 54), none, .mov, [.tm 53]⟩,
  ⟨(some 55), (some (54, false)), .mov, [.tm 4]⟩,
  ⟨(some 56), (some (54, false)), (.cmp .neq), [.tm 55, .cn (.int .i64 0)]⟩,
  ⟨(some 57), none, .or, [.tm 54, .tm 56]⟩,
  ⟨(some 58), none, .mov, [.tm 57]⟩,
  ⟨(some 59), (some (58, false)), .mov, [.tm 6]⟩,
  ⟨(some 60), (some (58, false)), (.cmp .neq), [.tm 59, .cn (.int .i64 0)]⟩,
  ⟨(some 61), none, .or, [.tm 58, .tm 60]⟩,
  ⟨(some 62), none, .mov, [.tm 61]⟩,
  ⟨(some 63), (some (62, false)), .mov, [.tm 8]⟩,
  ⟨(some 64), (some (62, false)), (.cmp .neq), [.tm 63, .cn (.int .i64 0)]⟩,
  ⟨(some 65), none, .or, [.tm 62, .tm 64]⟩,
  ⟨(some 66), none, .mov, [.tm 65]⟩,
  ⟨(some 67), (some (66, false)), .mov, [.tm 10]⟩,
  ⟨(some 68), (some (66, false)), (.cmp .neq), [.tm 67, .cn (.int .i64 0)]⟩,
  ⟨(some 69), none, .or, [.tm 66, .tm 68]⟩,
  ⟨(some 70), none, .mov, [.tm 69]⟩,
  ⟨(some 71), (some (70, false)), .mov, [.tm 12]⟩,
  ⟨(some 72), (some (70, false)), (.cmp .neq), [.tm 71, .cn (.int .i64 0)]⟩,
  ⟨(some 73), none, .or, [.tm 70, .tm 72]⟩,
  ⟨(some 74), none, .mov, [.tm 73]⟩,
  ⟨(some 75), (some (74, false)), .mov, [.tm 14]⟩,
  ⟨(some 76), (some (74, false)), (.cmp .neq), [.tm 75, .cn (.int .i64 0)]⟩,
  ⟨(some 77), none, .or, [.tm 74, .tm 76]⟩])
 (.cond (.tm 77) (.seq (.region [⟨(some 0), none, .mov, [.cn (.bool false)]⟩])
 .ret)
  .skip))
 (.seq (.draw [] [⟨⟨(some 78), none, (.load true 2), [.tm 1]⟩, []⟩,
  ⟨⟨(some 79), none, (.call 22), [.cn (.int .i64 (-21)), .cn (.int .i64 14)]⟩, []⟩,
  ⟨⟨(some 80), none, (.eqv false [true, true]), [.tm 78, .tm 79]⟩, []⟩,
  ⟨⟨(some 81), none, .mov, [.tm 80]⟩, []⟩,
  ⟨⟨(some 82), (some (81, true)), (.load true 2), [.tm 3]⟩, []⟩,
  ⟨⟨(some 83), (some (81, true)), (.call 22), [.cn (.int .i64 2), .cn (.int .i64 4)]⟩, []⟩,
  ⟨⟨(some 84), (some (81, true)), (.eqv false [true, true]), [.tm 82, .tm 83]⟩, []⟩,
  ⟨⟨(some 85), none, .and, [.tm 81, .tm 84]⟩, []⟩,
  ⟨⟨(some 86), none, .mov, [.tm 85]⟩, []⟩,
  ⟨⟨(some 87), (some (86, true)), (.load true 2), [.tm 5]⟩, []⟩,
  ⟨⟨(some 88), (some (86, true)), (.call 22), [.cn (.int .i64 (-4)), .cn (.int .i64 (-3))]⟩, []⟩,
  ⟨⟨(some 89), (some (86, true)), (.eqv false [true, true]), [.tm 87, .tm 88]⟩, []⟩,
  ⟨⟨(some 90), none, .and, [.tm 86, .tm 89]⟩, []⟩,
  ⟨⟨(some 91), none, .mov, [.tm 90]⟩, []⟩,
  ⟨⟨(some 92), (some (91, true)), (.load true 2), [.tm 7]⟩, []⟩,
  ⟨⟨(some 93), (some (91, true)), (.call 22), [.cn (.int .i64 0), .cn (.int .i64 9)]⟩, []⟩,
  ⟨⟨(some 94), (some (91, true)), (.eqv false [true, true]), [.tm 92, .tm 93]⟩, []⟩,
  ⟨⟨(some 95), none, .and, [.tm 91, .tm 94]⟩, []⟩,
  ⟨⟨(some 96), none, .mov, [.tm 95]⟩, []⟩,
  ⟨⟨(some 97), (some (96, true)), (.load true 2), [.tm 9]⟩, []⟩,
  ⟨⟨(some 98), (some (96, true)), (.call 22), [.cn (.int .i64 3), .cn (.int .i64 4)]⟩, []⟩,
  ⟨⟨(some 99), (some (96, true)), (.eqv false [true, true]), [.tm 97, .tm 98]⟩, []⟩,
  ⟨⟨(some 100), none, .and, [.tm 96, .tm 99]⟩, []⟩,
  ⟨⟨(some 101), none, .mov, [.tm 100]⟩, []⟩,
  ⟨⟨(some 102), (some (101, true)), (.load true 2), [.tm 11]⟩, []⟩,
  ⟨⟨(some 103), (some (101, true)), (.call 22), [.cn (.int .i64 3141592), .cn (.int .i64 3141593)]⟩, []⟩,
  ⟨⟨(some 104), (some (101, true)), (.eqv false [true, true]), [.tm 102, .tm 103]⟩, []⟩,
  ⟨⟨(some 105), none, .and, [.tm 101, .tm 104]⟩, []⟩,
  ⟨⟨(some 106), none, .mov, [.tm 105]⟩, []⟩,
  ⟨⟨(some 107), (some (106, true)), (.load true 2), [.tm 13]⟩, []⟩,
  ⟨⟨(some 108), (some (106, true)), (.call 22), [.cn (.int .i64 785398), .cn (.int .i64 785399)]⟩, []⟩,
  ⟨⟨(some 109), (some (106, true)), (.eqv false [true, true]), [.tm 107, .tm 108]⟩, []⟩,
  ⟨⟨(some 110), none, .and, [.tm 106, .tm 109]⟩, []⟩,
  ⟨⟨(some 0), none, .mov, [.tm 110]⟩, []⟩])
 .ret)))))))))) }
theorem v16_is : vfunc Try.prog Try.f16 = some v16 := by kernel_rfl
def v9 : VF := { ntmps := 111, res := [.tmp 4], body :=
 (.seq (.region [⟨(some 2), none, .box, [.tm 0]⟩,
  ⟨(some 3), none, .box, [.tm 1]⟩,
  ⟨(some 4), none, .mov, [.cn (.bool false)]⟩])
 (.seq (.region [⟨(some 20), none, (.load true 2), [.tm 2]⟩,
  ⟨(some 21), none, (.load true 2), [.tm 3]⟩,
  ⟨(some 22), none, (.call 36), [.tm 20, .tm 21]⟩,
  ⟨(some 19), none, .mov, [.tm 22]⟩,
  ⟨(some 23), none, (.ext 0), [.tm 19]⟩,
  ⟨(some 24), none, (.ext 1), [.tm 19]⟩,
  ⟨(some 5), none, (.alloc [(.int .i64 0), (.int .i64 0)]), []⟩,
  ⟨none, none, (.store 2), [.tm 5, .tm 23]⟩,
  ⟨(some 6), none, .mov, [.tm 24]⟩])
 (.seq (.region [⟨(some 26), none, (.load true 2), [.tm 2]⟩,
  ⟨(some 27), none, (.load true 2), [.tm 3]⟩,
  ⟨(some 28), none, (.call 37), [.tm 26, .tm 27]⟩,
  ⟨(some 25), none, .mov, [.tm 28]⟩,
  ⟨(some 29), none, (.ext 0), [.tm 25]⟩,
  ⟨(some 30), none, (.ext 1), [.tm 25]⟩,
  ⟨(some 7), none, (.alloc [(.int .i64 0), (.int .i64 0)]), []⟩,
  ⟨none, none, (.store 2), [.tm 7, .tm 29]⟩,
  ⟨(some 8), none, .mov, [.tm 30]⟩])
 (.seq (.region [⟨(some 32), none, (.load true 2), [.tm 2]⟩,
  ⟨(some 33), none, (.load true 2), [.tm 3]⟩,
  ⟨(some 34), none, (.call 38), [.tm 32, .tm 33]⟩,
  ⟨(some 31), none, .mov, [.tm 34]⟩,
  ⟨(some 35), none, (.ext 0), [.tm 31]⟩,
  ⟨(some 36), none, (.ext 1), [.tm 31]⟩,
  ⟨(some 9), none, (.alloc [(.int .i64 0), (.int .i64 0)]), []⟩,
  ⟨none, none, (.store 2), [.tm 9, .tm 35]⟩,
  ⟨(some 10), none, .mov, [.tm 36]⟩])
 (.seq (.region [⟨(some 38), none, (.load true 2), [.tm 2]⟩,
  ⟨(some 39), none, (.load true 2), [.tm 3]⟩,
  ⟨(some 40), none, (.call 39), [.tm 38, .tm 39]⟩,
  ⟨(some 37), none, .mov, [.tm 40]⟩,
  ⟨(some 41), none, (.ext 0), [.tm 37]⟩,
  ⟨(some 42), none, (.ext 1), [.tm 37]⟩,
  ⟨(some 11), none, (.alloc [(.int .i64 0), (.int .i64 0)]), []⟩,
  ⟨none, none, (.store 2), [.tm 11, .tm 41]⟩,
  ⟨(some 12), none, .mov, [.tm 42]⟩])
 (.seq (.region [⟨(some 44), none, (.load true 2), [.tm 2]⟩,
  ⟨(some 45), none, (.load true 2), [.tm 3]⟩,
  ⟨(some 46), none, (.call 40), [.tm 44, .tm 45]⟩,
  ⟨(some 43), none, .mov, [.tm 46]⟩,
  ⟨(some 47), none, (.ext 0), [.tm 43]⟩,
  ⟨(some 48), none, (.ext 1), [.tm 43]⟩,
  ⟨(some 13), none, .mov, [.tm 47]⟩,
  ⟨(some 14), none, .mov, [.tm 48]⟩])
 (.seq (.region [⟨(some 50), none, (.load true 2), [.tm 2]⟩,
  ⟨(some 51), none, (.load true 2), [.tm 3]⟩,
  ⟨(some 52), none, (.call 41), [.tm 50, .tm 51]⟩,
  ⟨(some 49), none, .mov, [.tm 52]⟩,
  ⟨(some 53), none, (.ext 0), [.tm 49]⟩,
  ⟨(some 54), none, (.ext 1), [.tm 49]⟩,
  ⟨(some 15), none, .mov, [.tm 53]⟩,
  ⟨(some 16), none, .mov, [.tm 54]⟩])
 (.seq (.region [⟨(some 56), none, (.load true 2), [.tm 3]⟩,
  ⟨(some 57), none, (.load true 2), [.tm 2]⟩,
  ⟨(some 58), none, (.call 40), [.tm 56, .tm 57]⟩,
  ⟨(some 55), none, .mov, [.tm 58]⟩,
  ⟨(some 59), none, (.ext 0), [.tm 55]⟩,
  ⟨(some 60), none, (.ext 1), [.tm 55]⟩,
  ⟨(some 17), none, .mov, [.tm 59]⟩,
  ⟨(some 18), none, .mov, [.tm 60]⟩])
 (.seq (.seq (.region [⟨(some 61), none, (.load true 2), [.tm 5]⟩,
  ⟨(some 62), none, (.load true 2), [.tm 7]⟩,
  ⟨(some 63), none, (.eqv true [true, true]), [.tm 61, .tm 62]⟩,
  ⟨(some 64), none, .mov, [.tm 63]⟩,
  ⟨(some 65), (some (64, false)), .mov, [.tm 6]⟩,
  ⟨(some 66), (some (64, false)), .mov, [.tm 8]⟩,
  ⟨(some 67), (some (64, false)), (.cmp .neq), [.tm 65, .tm 66]⟩,
  ⟨(some 68), none, .or, [.tm 64, .tm 67]⟩,
  ⟨(some 69), none, .mov, [.tm 68]⟩,
  ⟨(some 70), (some (69, false)), (.load true 2), [.tm 9]⟩,
  ⟨(some 71), (some (69, false)), (.load true 2), [.tm 11]⟩,
  ⟨(some 72), (some (69, false)), (.eqv true [true, true]), [.tm 70, .tm 71]⟩,
  ⟨(some 73), none, .or, [.tm 69, .tm 72]⟩,
  ⟨(some 74), none, .mov, [.tm 73]⟩,
  ⟨(some 75), (some (74, false)), .mov, [.tm 10]⟩,
  ⟨(some 76), (some (74, false)), .mov, [.tm 12]⟩,
  ⟨(some 77), (some (74, false)), (.cmp .neq), [.tm 75, .tm 76]⟩,
  ⟨(some 78), none, .or, [.tm 74, .tm 77]⟩,
  ⟨(some 79), none, .mov, [.tm 78]⟩,
  ⟨(some 80), (some (79, false)), .mov, [.tm 13]⟩,
  ⟨(some 81), (some (79, false)), .mov, [.tm 15]⟩,
  ⟨(some 82), (some (79, false)), (.cmp .neq), [.tm 80, .tm 81]⟩,
  ⟨(some 83), none, .or, [.tm 79, .tm 82]⟩,
  ⟨(some 84), none, .mov, [.tm 83]⟩,
  ⟨(some 85), (some (84, false)), .mov, [.tm 14]⟩,
  ⟨(some 86), (some (84, false)), .mov, [.tm 16]⟩,
  ⟨(some 87), (some (84, false)), (.cmp .neq), [.tm 85, .tm 86]⟩,
  ⟨(some 88), none, .or, [.tm 84, .tm 87]⟩])
 (.cond (.tm 88) (.seq (.region [⟨(some 4), none, .mov, [.cn (.bool false)]⟩])
 .ret)
  .skip))
 (.seq (.region [⟨(some 89), none, .mov, [.tm 14]⟩,
  ⟨(some 90), none, (.cmp .neq), [.tm 89, .cn (.int .i64 0)]⟩,
  ⟨(some 91), none, .mov, [.tm 90]⟩,
  ⟨(some 92), (some (91, false)), .mov, [.tm 18]⟩,
  ⟨(some 93), (some (91, false)), (.cmp .eql), [.tm 92, .cn (.int .i64 0)]⟩,
  ⟨(some 94), (some (91, false)), .mov, [.tm 93]⟩,
  ⟨(some 95), (some (94, true)), .mov, [.tm 17]⟩,
  ⟨(some 96), (some (94, true)), .mov, [.tm 13]⟩,
  ⟨(some 97), (some (94, true)), .neg, [.tm 96]⟩,
  ⟨(some 98), (some (94, true)), (.cmp .eql), [.tm 95, .tm 97]⟩,
  ⟨(some 99), (some (91, false)), .and, [.tm 94, .tm 98]⟩,
  ⟨(some 100), (some (91, false)), .mov, [.tm 99]⟩,
  ⟨(some 101), (some (100, true)), .mov, [.tm 13]⟩,
  ⟨(some 102), (some (100, true)), (.cmp .neq), [.tm 101, .cn (.int .i64 0)]⟩,
  ⟨(some 103), (some (100, true)), .mov, [.tm 10]⟩,
  ⟨(some 104), (some (100, true)), (.cmp .eql), [.tm 103, .cn (.int .i64 4)]⟩,
  ⟨(some 105), (some (100, true)), (.eqb false), [.tm 102, .tm 104]⟩,
  ⟨(some 106), (some (91, false)), .and, [.tm 100, .tm 105]⟩,
  ⟨(some 107), none, .or, [.tm 91, .tm 106]⟩,
  ⟨(some 108), none, .mov, [.tm 107]⟩,
  ⟨(some 109), (some (108, true)), (.call 16), []⟩,
  ⟨(some 110), none, .and, [.tm 108, .tm 109]⟩,
  ⟨(some 4), none, .mov, [.tm 110]⟩])
 .ret)))))))))) }
theorem v9_is : vfunc Try.prog Try.f9 = some v9 := by kernel_rfl


def mkivC : Ctr := { alias := false, of := fun l => match l with
  | [.int .i64 x, .int .i64 y] => .fin (.agg (enc2 (x, y))) []
  | _ => noC }
theorem mkiv_ok : mkivC.ok Try.prog 22 := by
  refine contract Try.func22 v22_is P0_ok 100 mkivC fun args k h => ⟨args, ?_⟩
  simp only [mkivC] at h
  split at h
  · rename_i x y
    refine ⟨by simp [leL, le], ?_⟩
    dsimp only [v22, r_end, r_end1, r_nil, r_op, r_opg, r_runOp, r_op0, r_yld0, r_yld1, r_y, r_rbeg, r_rend, r_rend1, r_rfrm, r_rfrm1, r_range, r_rangeK, r_rangeE, r_draw, r_dnil, r_dop, r_dopg, r_dplq, r_dplh, r_dq, r_dq0, r_dcl1, r_dcl0, r_dct1, r_dct0, r_dgd, r_dgq1, r_dgq0, r_dctG, r_op1, r_eff, r_eff0, r_call, r_call0, r_inl, r_g, r_gq, r_gc, r_effg, r_effg0, r_callg, r_callg0, r_fin, r_pre, r_imp, r_all, r_ex, r_fing, r_preg, r_exg, r_inBlock, r_inLoop, r_frame, r_frame1, r_skip, r_stuck, r_region, r_seq, r_cond, r_cond1, r_block, r_exit, r_exit1, r_exit2, r_ret, r_loop, s_args0, s_args1, s_xt, s_xc, padL, blankL, callee, callArgs, eff, ctOf, getL, setL, S.put, S.upd, unopts, unopt, unoptsO, unoptsB, lazyO, guardOf, gbool, eMov, eNot, eNeg, eConv, eExt, eLenArr, eLen, eLenStr, eEqb, eEqv, allEq, eNil, negIf, eBool2, eCmp, eAri, ari, eBit, eDiv, eSh, eMinMax, foldMin, foldMax, kEq, pure1, cmpB, VO.quiet, resVals, resVal, tupled, popRet, popTo, cond, Option.bind, Option.map, eNew, eBox, asCells, lenH, snocH, eFieldAddr, eField, eLoad, cellsAt, getH, setH, dropL, takeL, mkAgg, lenL, lenS, shift, shiftL, shiftH, viewN, viewL, view, andT, junks, List.append_nil, Nat.beq, eIdxAddr, eIdxArr, idxN_0, idxN_1, idxN_2, idxN_3, eIndex, eStore, storeAt, spliceL, ones, one, eSlice, eSliceArr, bounds, subLo_z, addLo_z, subLo_one, addLo_one, eMake, eAppend, readS, repL, buildCells, chunk, purgeL, purgeLL, purgeH, purge, refs, refsL, List.cons_append, List.nil_append, wrOps, wrAl, wrDops, wrC, junkAt, putAll, putHs, headOf, headK, keepG, List.append_eq, headX, chkP, apartP, apartB, blk, strip, runAl, AL.ho, yld, putPs, lenN, findR, notRound, jumpK, jumpPT, jcode, List.map_cons, List.map_nil, ite_self, reduceIte]
    simp only [true_and, and_true, imp_self, implies_true, decide_eq_true_eq, decide_eq_false_iff_not, Nat.reduceAdd, Nat.reduceLeDiff, Bool.not_not, reduceCtorEq, false_imp_iff, Bool.not_eq_true', Bool.not_eq_false', Bool.false_eq_true, and_self, forall_const, ne_eq, not_false_eq_true, Nat.reduceEqDiff]
    exact ans_le (show k _ [] from h) (le_self (.agg (enc2 (x, y))) ⟨trivial, trivial, trivial⟩) (fun _ => by simp [enc2, freshS, freshL])
  · exact h.1.elim

def A0 : Env := { ct := fun n => match n with | 22 => some mkivC | 23 => some mulC | 26 => some quoC | 10 => some sclC | 12 => some powC | 14 => some rootC | 17 => some piC | 19 => some discC | _ => none, fn := fun _ => none, meth := fun _ _ => none }
theorem A0_ct22 : A0.ct 22 = some mkivC := rfl
theorem A0_ct23 : A0.ct 23 = some mulC := rfl
theorem A0_ct26 : A0.ct 26 = some quoC := rfl
theorem A0_ct10 : A0.ct 10 = some sclC := rfl
theorem A0_ct12 : A0.ct 12 = some powC := rfl
theorem A0_ct14 : A0.ct 14 = some rootC := rfl
theorem A0_ct17 : A0.ct 17 = some piC := rfl
theorem A0_ct19 : A0.ct 19 = some discC := rfl
theorem A0_ok : EnvOk Try.prog A0 := by
  refine ⟨fun f c h => ?_, fun f vf h => ?_, fun _ _ => rfl, by kernel_rfl⟩
  · simp only [A0] at h
    split at h
    · cases h; exact ⟨mkiv_ok, Try.f22, Try.func22, by kernel_rfl, by kernel_rfl⟩
    · cases h; exact ⟨mul_ok, Try.f23, Try.func23, by kernel_rfl, by kernel_rfl⟩
    · cases h; exact ⟨quo_ok, Try.f26, Try.func26, by kernel_rfl, by kernel_rfl⟩
    · cases h; exact ⟨scl_ok, Try.f10, Try.func10, by kernel_rfl, by kernel_rfl⟩
    · cases h; exact ⟨pow_ok, Try.f12, Try.func12, by kernel_rfl, by kernel_rfl⟩
    · cases h; exact ⟨root_ok, Try.f14, Try.func14, by kernel_rfl, by kernel_rfl⟩
    · cases h; exact ⟨pi_ok, Try.f17, Try.func17, by kernel_rfl, by kernel_rfl⟩
    · cases h; exact ⟨disc_ok, Try.f19, Try.func19, by kernel_rfl, by kernel_rfl⟩
    · cases h
  · cases h


theorem awake_ok : trueC.ok Try.prog 16 := by
  refine contract Try.func16 v16_is A0_ok 400 trueC fun args k h => ⟨args, ?_⟩
  simp only [trueC] at h
  split at h
  · refine ⟨by simp [leL], ?_⟩
    dsimp only [v16, A0_ct22, A0_ct23, A0_ct26, A0_ct10, A0_ct12, A0_ct14, A0_ct17, A0_ct19, mkivC, mulC, quoC, sclC, powC, rootC, piC, discC, iv2C, ivoC, enc2, r_end, r_end1, r_nil, r_op, r_opg, r_runOp, r_op0, r_yld0, r_yld1, r_y, r_rbeg, r_rend, r_rend1, r_rfrm, r_rfrm1, r_range, r_rangeK, r_rangeE, r_draw, r_dnil, r_dop, r_dopg, r_dplq, r_dplh, r_dq, r_dq0, r_dcl1, r_dcl0, r_dct1, r_dct0, r_dgd, r_dgq1, r_dgq0, r_dctG, r_op1, r_eff, r_eff0, r_call, r_call0, r_inl, r_g, r_gq, r_gc, r_effg, r_effg0, r_callg, r_callg0, r_fin, r_pre, r_imp, r_all, r_ex, r_fing, r_preg, r_exg, r_inBlock, r_inLoop, r_frame, r_frame1, r_skip, r_stuck, r_region, r_seq, r_cond, r_cond1, r_block, r_exit, r_exit1, r_exit2, r_ret, r_loop, s_args0, s_args1, s_xt, s_xc, padL, blankL, callee, callArgs, eff, ctOf, getL, setL, S.put, S.upd, unopts, unopt, unoptsO, unoptsB, lazyO, guardOf, gbool, eMov, eNot, eNeg, eConv, eExt, eLenArr, eLen, eLenStr, eEqb, eEqv, allEq, eNil, negIf, eBool2, eCmp, eAri, ari, eBit, eDiv, eSh, eMinMax, foldMin, foldMax, kEq, pure1, cmpB, VO.quiet, resVals, resVal, tupled, popRet, popTo, cond, Option.bind, Option.map, eNew, eBox, asCells, lenH, snocH, eFieldAddr, eField, eLoad, cellsAt, getH, setH, dropL, takeL, mkAgg, lenL, lenS, shift, shiftL, shiftH, viewN, viewL, view, andT, junks, List.append_nil, Nat.beq, eIdxAddr, eIdxArr, idxN_0, idxN_1, idxN_2, idxN_3, eIndex, eStore, storeAt, spliceL, ones, one, eSlice, eSliceArr, bounds, subLo_z, addLo_z, subLo_one, addLo_one, eMake, eAppend, readS, repL, buildCells, chunk, purgeL, purgeLL, purgeH, purge, refs, refsL, List.cons_append, List.nil_append, wrOps, wrAl, wrDops, wrC, junkAt, putAll, putHs, headOf, headK, keepG, List.append_eq, headX, chkP, apartP, apartB, blk, strip, runAl, AL.ho, yld, putPs, lenN, findR, notRound, jumpK, jumpPT, jcode, List.map_cons, List.map_nil, ite_self, reduceIte]
    have e1 : mulF (-2, 3) (-7, 1) = ((-21, 14), 0) := by decide +kernel
    have e2 : quoF (7, 8) (2, 3) = ((2, 4), 0) := by decide +kernel
    have e3 : sclF (10, 11) (-1) 3 = ((-4, -3), 0) := by decide +kernel
    have e4 : powF (-3, 2) 2 = ((0, 9), 0) := by decide +kernel
    have e5 : rootF (10, 10) 2 = ((3, 4), 0) := by decide +kernel
    have e6 : piF (1000000, 1000000) = ((3141592, 3141593), 0) := by decide +kernel
    have e7 : discF (1000, 1000) = ((785398, 785399), 0) := by decide +kernel
    simp only [e1, e2, e3, e4, e5, e6, e7]
    simp only [true_and, and_true, imp_self, implies_true, decide_eq_true_eq, decide_eq_false_iff_not, Nat.reduceAdd, Nat.reduceLeDiff, Bool.not_not, reduceCtorEq, false_imp_iff, Bool.not_eq_true', Bool.not_eq_false', Bool.false_eq_true, and_self, forall_const, ne_eq, not_false_eq_true, Nat.reduceEqDiff, decide_true, decide_false, Bool.and_true, Bool.true_and, Bool.and_false, Bool.false_and, Bool.not_true, Bool.not_false, Bool.or_false, Bool.false_or, Bool.or_true, Bool.true_or, Bool.and_self, Bool.or_self, Bool.false_eq_true, Bool.true_eq_false, false_imp_iff, forall_const, true_and, and_true, implies_true, reduceCtorEq, not_true_eq_false, not_false_eq_true, ite_true, ite_false]
    refine ⟨by decide, by decide, by decide, by decide, by decide, by decide, by decide, by decide, by decide, by decide, by decide, by decide, by decide, by decide, ans_bool ?_⟩
    exact h
  · exact h.1.elim
end Go.Proofs.Ytdognchniaojoaa
