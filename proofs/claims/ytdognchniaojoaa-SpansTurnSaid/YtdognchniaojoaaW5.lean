/- Spans: narrower intervals, and roots of powers: walked. -/
import Derived.Test.YtdognchniaojoaaW4
import Derived.Test.YtdognchniaojoaaP2
set_option linter.all false
namespace Go.Proofs.Ytdognchniaojoaa
open Go Go.Vx
set_option maxRecDepth 100000
set_option maxHeartbeats 4000000

def v7 : VF := { ntmps := 221, res := [.tmp 4], body :=
 (.seq (.region [⟨(some 2), none, .box, [.tm 0]⟩,
  ⟨(some 4), none, .mov, [.cn (.bool false)]⟩])
 (.seq (.region [⟨(some 28), none, (.fieldAddr 0), [.tm 2]⟩,
  ⟨(some 29), none, (.load true 2), [.tm 28]⟩,
  ⟨(some 30), none, (.fieldAddr 4), [.tm 2]⟩,
  ⟨(some 31), none, (.load false 1), [.tm 30]⟩,
  ⟨(some 32), none, (.call 21), [.tm 29, .tm 31]⟩,
  ⟨(some 27), none, .mov, [.tm 32]⟩,
  ⟨(some 33), none, (.ext 0), [.tm 27]⟩,
  ⟨(some 34), none, (.ext 1), [.tm 27]⟩,
  ⟨(some 5), none, (.alloc [(.int .i64 0), (.int .i64 0)]), []⟩,
  ⟨none, none, (.store 2), [.tm 5, .tm 33]⟩,
  ⟨(some 6), none, .mov, [.tm 34]⟩])
 (.seq (.region [⟨(some 36), none, (.fieldAddr 2), [.tm 2]⟩,
  ⟨(some 37), none, (.load true 2), [.tm 36]⟩,
  ⟨(some 38), none, (.fieldAddr 5), [.tm 2]⟩,
  ⟨(some 39), none, (.load false 1), [.tm 38]⟩,
  ⟨(some 40), none, (.call 21), [.tm 37, .tm 39]⟩,
  ⟨(some 35), none, .mov, [.tm 40]⟩,
  ⟨(some 41), none, (.ext 0), [.tm 35]⟩,
  ⟨(some 42), none, (.ext 1), [.tm 35]⟩,
  ⟨(some 7), none, (.alloc [(.int .i64 0), (.int .i64 0)]), []⟩,
  ⟨none, none, (.store 2), [.tm 7, .tm 41]⟩,
  ⟨(some 8), none, .mov, [.tm 42]⟩])
 (.seq (.draw [(9, .box [(.int .i64 0), (.int .i64 0)]), (10, .box [(.int .i64 0), (.int .i64 0)])] [⟨⟨(some 43), none, .mov, [.tm 6]⟩, []⟩,
  ⟨⟨(some 44), none, (.fieldAddr 1), [.tm 5]⟩, []⟩,
  ⟨⟨(some 45), none, (.load false 1), [.tm 44]⟩, []⟩,
  ⟨⟨(some 47), none, (.fieldAddr 0), [.tm 7]⟩, []⟩,
  ⟨⟨(some 48), none, (.load false 1), [.tm 47]⟩, []⟩,
  ⟨⟨(some 49), none, .mov, [.tm 8]⟩, []⟩,
  ⟨⟨(some 46), none, (.call 22), [.tm 43, .tm 45]⟩, []⟩,
  ⟨⟨(some 50), none, (.call 22), [.tm 48, .tm 49]⟩, []⟩,
  ⟨⟨none, none, (.store 2), [.tm 9, .tm 46]⟩, []⟩,
  ⟨⟨none, none, (.store 2), [.tm 10, .tm 50]⟩, []⟩])
 (.seq (.region [⟨(some 52), none, (.load true 2), [.tm 5]⟩,
  ⟨(some 53), none, (.load true 2), [.tm 7]⟩,
  ⟨(some 54), none, (.call 23), [.tm 52, .tm 53]⟩,
  ⟨(some 51), none, .mov, [.tm 54]⟩,
  ⟨(some 55), none, (.ext 0), [.tm 51]⟩,
  ⟨(some 56), none, (.ext 1), [.tm 51]⟩,
  ⟨(some 11), none, (.alloc [(.int .i64 0), (.int .i64 0)]), []⟩,
  ⟨none, none, (.store 2), [.tm 11, .tm 55]⟩,
  ⟨(some 12), none, .mov, [.tm 56]⟩])
 (.seq (.region [⟨(some 58), none, (.load true 2), [.tm 9]⟩,
  ⟨(some 59), none, (.load true 2), [.tm 10]⟩,
  ⟨(some 60), none, (.call 23), [.tm 58, .tm 59]⟩,
  ⟨(some 57), none, .mov, [.tm 60]⟩,
  ⟨(some 61), none, (.ext 0), [.tm 57]⟩,
  ⟨(some 62), none, (.ext 1), [.tm 57]⟩,
  ⟨(some 13), none, (.alloc [(.int .i64 0), (.int .i64 0)]), []⟩,
  ⟨none, none, (.store 2), [.tm 13, .tm 61]⟩,
  ⟨(some 14), none, .mov, [.tm 62]⟩])
 (.seq (.region [⟨(some 64), none, (.load true 2), [.tm 5]⟩,
  ⟨(some 65), none, .mov, [.tm 1]⟩,
  ⟨(some 66), none, .rem, [.tm 65, .cn (.int .u8 3)]⟩,
  ⟨(some 67), none, (.conv .i64), [.tm 66]⟩,
  ⟨(some 68), none, (.call 12), [.tm 64, .tm 67]⟩,
  ⟨(some 63), none, .mov, [.tm 68]⟩,
  ⟨(some 69), none, (.ext 0), [.tm 63]⟩,
  ⟨(some 70), none, (.ext 1), [.tm 63]⟩,
  ⟨(some 15), none, (.alloc [(.int .i64 0), (.int .i64 0)]), []⟩,
  ⟨none, none, (.store 2), [.tm 15, .tm 69]⟩,
  ⟨(some 16), none, .mov, [.tm 70]⟩])
 (.seq (.region [⟨(some 72), none, (.load true 2), [.tm 9]⟩,
  ⟨(some 73), none, .mov, [.tm 1]⟩,
  ⟨(some 74), none, .rem, [.tm 73, .cn (.int .u8 3)]⟩,
  ⟨(some 75), none, (.conv .i64), [.tm 74]⟩,
  ⟨(some 76), none, (.call 12), [.tm 72, .tm 75]⟩,
  ⟨(some 71), none, .mov, [.tm 76]⟩,
  ⟨(some 77), none, (.ext 0), [.tm 71]⟩,
  ⟨(some 78), none, (.ext 1), [.tm 71]⟩,
  ⟨(some 17), none, (.alloc [(.int .i64 0), (.int .i64 0)]), []⟩,
  ⟨none, none, (.store 2), [.tm 17, .tm 77]⟩,
  ⟨(some 18), none, .mov, [.tm 78]⟩])
 (.seq (.region [⟨(some 80), none, (.load true 2), [.tm 5]⟩,
  ⟨(some 81), none, (.call 17), [.tm 80]⟩,
  ⟨(some 79), none, .mov, [.tm 81]⟩,
  ⟨(some 82), none, (.ext 0), [.tm 79]⟩,
  ⟨(some 83), none, (.ext 1), [.tm 79]⟩,
  ⟨(some 19), none, (.alloc [(.int .i64 0), (.int .i64 0)]), []⟩,
  ⟨none, none, (.store 2), [.tm 19, .tm 82]⟩,
  ⟨(some 20), none, .mov, [.tm 83]⟩])
 (.seq (.region [⟨(some 85), none, (.load true 2), [.tm 9]⟩,
  ⟨(some 86), none, (.call 17), [.tm 85]⟩,
  ⟨(some 84), none, .mov, [.tm 86]⟩,
  ⟨(some 87), none, (.ext 0), [.tm 84]⟩,
  ⟨(some 88), none, (.ext 1), [.tm 84]⟩,
  ⟨(some 21), none, (.alloc [(.int .i64 0), (.int .i64 0)]), []⟩,
  ⟨none, none, (.store 2), [.tm 21, .tm 87]⟩,
  ⟨(some 22), none, .mov, [.tm 88]⟩])
 (.seq (.seq (.region [⟨(some 89), none, .mov, [.tm 12]⟩,
  ⟨(some 90), none, (.cmp .neq), [.tm 89, .cn (.int .i64 0)]⟩,
  ⟨(some 91), none, .mov, [.tm 90]⟩,
  ⟨(some 92), (some (91, false)), .mov, [.tm 14]⟩,
  ⟨(some 93), (some (91, false)), (.cmp .neq), [.tm 92, .cn (.int .i64 0)]⟩,
  ⟨(some 94), none, .or, [.tm 91, .tm 93]⟩,
  ⟨(some 95), none, .mov, [.tm 94]⟩,
  ⟨(some 96), (some (95, false)), .mov, [.tm 16]⟩,
  ⟨(some 97), (some (95, false)), (.cmp .neq), [.tm 96, .cn (.int .i64 0)]⟩,
  ⟨(some 98), none, .or, [.tm 95, .tm 97]⟩,
  ⟨(some 99), none, .mov, [.tm 98]⟩,
  ⟨(some 100), (some (99, false)), .mov, [.tm 18]⟩,
  ⟨(some 101), (some (99, false)), (.cmp .neq), [.tm 100, .cn (.int .i64 0)]⟩,
  ⟨(some 102), none, .or, [.tm 99, .tm 101]⟩,
  ⟨(some 103), none, .mov, [.tm 102]⟩,
  ⟨(some 104), (some (103, false)), .mov, [.tm 20]⟩,
  ⟨(some 105), (some (103, false)), (.cmp .neq), [.tm 104, .cn (.int .i64 0)]⟩,
  ⟨(some 106), none, .or, [.tm 103, .tm 105]⟩,
  ⟨(some 107), none, .mov, [.tm 106]⟩,
  ⟨(some 108), (some (107, false)), .mov, [.tm 22]⟩,
  ⟨(some 109), (some (107, false)), (.cmp .neq), [.tm 108, .cn (.int .i64 0)]⟩,
  ⟨(some 110), none, .or, [.tm 107, .tm 109]⟩,
  ⟨(some 111), none, .mov, [.tm 110]⟩,
  ⟨(some 112), (some (111, false)), (.fieldAddr 0), [.tm 13]⟩,
  ⟨(some 113), (some (111, false)), (.load false 1), [.tm 112]⟩,
  ⟨(some 114), (some (111, false)), (.load true 2), [.tm 11]⟩,
  ⟨(some 115), (some (111, false)), (.call 27), [.tm 113, .tm 114]⟩,
  ⟨(some 116), (some (111, false)), .not, [.tm 115]⟩,
  ⟨(some 117), none, .or, [.tm 111, .tm 116]⟩,
  ⟨(some 118), none, .mov, [.tm 117]⟩,
  ⟨(some 119), (some (118, false)), (.fieldAddr 1), [.tm 13]⟩,
  ⟨(some 120), (some (118, false)), (.load false 1), [.tm 119]⟩,
  ⟨(some 121), (some (118, false)), (.load true 2), [.tm 11]⟩,
  ⟨(some 122), (some (118, false)), (.call 27), [.tm 120, .tm 121]⟩,
  ⟨(some 123), (some (118, false)), .not, [.tm 122]⟩,
  ⟨(some 124), none, .or, [.tm 118, .tm 123]⟩,
  ⟨(some 125), none, .mov, [.tm 124]⟩,
  ⟨(some 126), (some (125, false)), (.fieldAddr 0), [.tm 17]⟩,
  ⟨(some 127), (some (125, false)), (.load false 1), [.tm 126]⟩,
  ⟨(some 128), (some (125, false)), (.load true 2), [.tm 15]⟩,
  ⟨(some 129), (some (125, false)), (.call 27), [.tm 127, .tm 128]⟩,
  ⟨(some 130), (some (125, false)), .not, [.tm 129]⟩,
  ⟨(some 131), none, .or, [.tm 125, .tm 130]⟩,
  ⟨(some 132), none, .mov, [.tm 131]⟩,
  ⟨(some 133), (some (132, false)), (.fieldAddr 1), [.tm 17]⟩,
  ⟨(some 134), (some (132, false)), (.load false 1), [.tm 133]⟩,
  ⟨(some 135), (some (132, false)), (.load true 2), [.tm 15]⟩,
  ⟨(some 136), (some (132, false)), (.call 27), [.tm 134, .tm 135]⟩,
  ⟨(some 137), (some (132, false)), .not, [.tm 136]⟩,
  ⟨(some 138), none, .or, [.tm 132, .tm 137]⟩,
  ⟨(some 139), none, .mov, [.tm 138]⟩,
  ⟨(some 140), (some (139, false)), (.fieldAddr 0), [.tm 21]⟩,
  ⟨(some 141), (some (139, false)), (.load false 1), [.tm 140]⟩,
  ⟨(some 142), (some (139, false)), (.load true 2), [.tm 19]⟩,
  ⟨(some 143), (some (139, false)), (.call 27), [.tm 141, .tm 142]⟩,
  ⟨(some 144), (some (139, false)), .not, [.tm 143]⟩,
  ⟨(some 145), none, .or, [.tm 139, .tm 144]⟩,
  ⟨(some 146), none, .mov, [.tm 145]⟩,
  ⟨(some 147), (some (146, false)), (.fieldAddr 1), [.tm 21]⟩,
  ⟨(some 148), (some (146, false)), (.load false 1), [.tm 147]⟩,
  ⟨(some 149), (some (146, false)), (.load true 2), [.tm 19]⟩,
  ⟨(some 150), (some (146, false)), (.call 27), [.tm 148, .tm 149]⟩,
  ⟨(some 151), (some (146, false)), .not, [.tm 150]⟩,
  ⟨(some 152), none, .or, [.tm 146, .tm 151]⟩])
 (.cond (.tm 152) (.seq (.region [⟨(some 4), none, .mov, [.cn (.bool false)]⟩])
 .ret)
  .skip))
 (.seq (.region [⟨(some 154), none, (.load true 2), [.tm 5]⟩,
  ⟨(some 155), none, (.load true 2), [.tm 7]⟩,
  ⟨(some 156), none, (.call 24), [.tm 154, .tm 155]⟩,
  ⟨(some 153), none, .mov, [.tm 156]⟩,
  ⟨(some 157), none, (.ext 0), [.tm 153]⟩,
  ⟨(some 158), none, (.ext 1), [.tm 153]⟩,
  ⟨(some 23), none, (.alloc [(.int .i64 0), (.int .i64 0)]), []⟩,
  ⟨none, none, (.store 2), [.tm 23, .tm 157]⟩,
  ⟨(some 12), none, .mov, [.tm 158]⟩])
 (.seq (.region [⟨(some 160), none, (.load true 2), [.tm 23]⟩,
  ⟨(some 161), none, (.load true 2), [.tm 7]⟩,
  ⟨(some 162), none, (.call 25), [.tm 160, .tm 161]⟩,
  ⟨(some 159), none, .mov, [.tm 162]⟩,
  ⟨(some 163), none, (.ext 0), [.tm 159]⟩,
  ⟨(some 164), none, (.ext 1), [.tm 159]⟩,
  ⟨(some 24), none, (.alloc [(.int .i64 0), (.int .i64 0)]), []⟩,
  ⟨none, none, (.store 2), [.tm 24, .tm 163]⟩,
  ⟨(some 14), none, .mov, [.tm 164]⟩])
 (.seq (.seq (.region [⟨(some 165), none, .mov, [.tm 12]⟩,
  ⟨(some 166), none, (.cmp .neq), [.tm 165, .cn (.int .i64 0)]⟩,
  ⟨(some 167), none, .mov, [.tm 166]⟩,
  ⟨(some 168), (some (167, false)), .mov, [.tm 14]⟩,
  ⟨(some 169), (some (167, false)), (.cmp .neq), [.tm 168, .cn (.int .i64 0)]⟩,
  ⟨(some 170), none, .or, [.tm 167, .tm 169]⟩,
  ⟨(some 171), none, .mov, [.tm 170]⟩,
  ⟨(some 172), (some (171, false)), (.fieldAddr 0), [.tm 5]⟩,
  ⟨(some 173), (some (171, false)), (.load false 1), [.tm 172]⟩,
  ⟨(some 174), (some (171, false)), (.load true 2), [.tm 24]⟩,
  ⟨(some 175), (some (171, false)), (.call 27), [.tm 173, .tm 174]⟩,
  ⟨(some 176), (some (171, false)), .not, [.tm 175]⟩,
  ⟨(some 177), none, .or, [.tm 171, .tm 176]⟩,
  ⟨(some 178), none, .mov, [.tm 177]⟩,
  ⟨(some 179), (some (178, false)), (.fieldAddr 1), [.tm 5]⟩,
  ⟨(some 180), (some (178, false)), (.load false 1), [.tm 179]⟩,
  ⟨(some 181), (some (178, false)), (.load true 2), [.tm 24]⟩,
  ⟨(some 182), (some (178, false)), (.call 27), [.tm 180, .tm 181]⟩,
  ⟨(some 183), (some (178, false)), .not, [.tm 182]⟩,
  ⟨(some 184), none, .or, [.tm 178, .tm 183]⟩])
 (.cond (.tm 184) (.seq (.region [⟨(some 4), none, .mov, [.cn (.bool false)]⟩])
 .ret)
  .skip))
 (.seq (.seq (.region [⟨(some 185), none, (.load true 2), [.tm 7]⟩,
  ⟨(some 186), none, (.call 27), [.cn (.int .i64 0), .tm 185]⟩])
 (.cond (.tm 186) (.seq (.region [⟨(some 187), none, (.call 16), []⟩,
  ⟨(some 4), none, .mov, [.tm 187]⟩])
 .ret)
  .skip))
 (.seq (.region [⟨(some 189), none, (.load true 2), [.tm 5]⟩,
  ⟨(some 190), none, (.load true 2), [.tm 7]⟩,
  ⟨(some 191), none, (.call 26), [.tm 189, .tm 190]⟩,
  ⟨(some 188), none, .mov, [.tm 191]⟩,
  ⟨(some 192), none, (.ext 0), [.tm 188]⟩,
  ⟨(some 193), none, (.ext 1), [.tm 188]⟩,
  ⟨(some 25), none, (.alloc [(.int .i64 0), (.int .i64 0)]), []⟩,
  ⟨none, none, (.store 2), [.tm 25, .tm 192]⟩,
  ⟨(some 12), none, .mov, [.tm 193]⟩])
 (.seq (.region [⟨(some 195), none, (.load true 2), [.tm 25]⟩,
  ⟨(some 196), none, (.load true 2), [.tm 7]⟩,
  ⟨(some 197), none, (.call 23), [.tm 195, .tm 196]⟩,
  ⟨(some 194), none, .mov, [.tm 197]⟩,
  ⟨(some 198), none, (.ext 0), [.tm 194]⟩,
  ⟨(some 199), none, (.ext 1), [.tm 194]⟩,
  ⟨(some 26), none, (.alloc [(.int .i64 0), (.int .i64 0)]), []⟩,
  ⟨none, none, (.store 2), [.tm 26, .tm 198]⟩,
  ⟨(some 14), none, .mov, [.tm 199]⟩])
 (.seq (.region [⟨(some 200), none, .mov, [.tm 12]⟩,
  ⟨(some 201), none, (.cmp .eql), [.tm 200, .cn (.int .i64 0)]⟩,
  ⟨(some 202), none, .mov, [.tm 201]⟩,
  ⟨(some 203), (some (202, true)), .mov, [.tm 14]⟩,
  ⟨(some 204), (some (202, true)), (.cmp .eql), [.tm 203, .cn (.int .i64 0)]⟩,
  ⟨(some 205), none, .and, [.tm 202, .tm 204]⟩,
  ⟨(some 206), none, .mov, [.tm 205]⟩,
  ⟨(some 207), (some (206, true)), (.fieldAddr 0), [.tm 5]⟩,
  ⟨(some 208), (some (206, true)), (.load false 1), [.tm 207]⟩,
  ⟨(some 209), (some (206, true)), (.load true 2), [.tm 26]⟩,
  ⟨(some 210), (some (206, true)), (.call 27), [.tm 208, .tm 209]⟩,
  ⟨(some 211), none, .and, [.tm 206, .tm 210]⟩,
  ⟨(some 212), none, .mov, [.tm 211]⟩,
  ⟨(some 213), (some (212, true)), (.fieldAddr 1), [.tm 5]⟩,
  ⟨(some 214), (some (212, true)), (.load false 1), [.tm 213]⟩,
  ⟨(some 215), (some (212, true)), (.load true 2), [.tm 26]⟩,
  ⟨(some 216), (some (212, true)), (.call 27), [.tm 214, .tm 215]⟩,
  ⟨(some 217), none, .and, [.tm 212, .tm 216]⟩,
  ⟨(some 218), none, .mov, [.tm 217]⟩,
  ⟨(some 219), (some (218, true)), (.call 16), []⟩,
  ⟨(some 220), none, .and, [.tm 218, .tm 219]⟩,
  ⟨(some 4), none, .mov, [.tm 220]⟩])
 .ret)))))))))))))))))) }
theorem v7_is : vfunc Try.prog Try.f7 = some v7 := by kernel_rfl
def v5 : VF := { ntmps := 150, res := [.tmp 4], body :=
 (.seq (.region [⟨(some 2), none, .box, [.tm 0]⟩,
  ⟨(some 4), none, .mov, [.cn (.bool false)]⟩])
 (.seq (.region [⟨(some 21), none, (.fieldAddr 0), [.tm 2]⟩,
  ⟨(some 22), none, (.load true 2), [.tm 21]⟩,
  ⟨(some 23), none, (.fieldAddr 4), [.tm 2]⟩,
  ⟨(some 24), none, (.load false 1), [.tm 23]⟩,
  ⟨(some 25), none, (.call 21), [.tm 22, .tm 24]⟩,
  ⟨(some 20), none, .mov, [.tm 25]⟩,
  ⟨(some 26), none, (.ext 0), [.tm 20]⟩,
  ⟨(some 27), none, (.ext 1), [.tm 20]⟩,
  ⟨(some 5), none, (.alloc [(.int .i64 0), (.int .i64 0)]), []⟩,
  ⟨none, none, (.store 2), [.tm 5, .tm 26]⟩,
  ⟨(some 6), none, .mov, [.tm 27]⟩])
 (.seq (.region [⟨(some 28), none, (.fieldAddr 0), [.tm 5]⟩,
  ⟨(some 29), none, (.load false 1), [.tm 28]⟩,
  ⟨(some 30), none, .max, [.tm 29, .cn (.int .i64 0)]⟩,
  ⟨(some 31), none, (.fieldAddr 1), [.tm 5]⟩,
  ⟨(some 32), none, (.load false 1), [.tm 31]⟩,
  ⟨(some 33), none, .max, [.tm 32, .cn (.int .i64 0)]⟩,
  ⟨(some 34), none, (.call 22), [.tm 30, .tm 33]⟩,
  ⟨none, none, (.store 2), [.tm 5, .tm 34]⟩])
 (.seq (.region [⟨(some 35), none, .mov, [.tm 1]⟩,
  ⟨(some 36), none, (.conv .i64), [.tm 35]⟩,
  ⟨(some 37), none, .rem, [.tm 36, .cn (.int .i64 62)]⟩,
  ⟨(some 38), none, (.ari .add), [.cn (.int .i64 1), .tm 37]⟩,
  ⟨(some 7), none, .mov, [.tm 38]⟩])
 (.seq (.region [⟨(some 40), none, (.load true 2), [.tm 5]⟩,
  ⟨(some 41), none, .mov, [.tm 7]⟩,
  ⟨(some 42), none, (.call 12), [.tm 40, .tm 41]⟩,
  ⟨(some 39), none, .mov, [.tm 42]⟩,
  ⟨(some 43), none, (.ext 0), [.tm 39]⟩,
  ⟨(some 44), none, (.ext 1), [.tm 39]⟩,
  ⟨(some 8), none, (.alloc [(.int .i64 0), (.int .i64 0)]), []⟩,
  ⟨none, none, (.store 2), [.tm 8, .tm 43]⟩,
  ⟨(some 9), none, .mov, [.tm 44]⟩])
 (.seq (.seq (.region [⟨(some 45), none, .mov, [.tm 9]⟩,
  ⟨(some 46), none, (.cmp .neq), [.tm 45, .cn (.int .i64 0)]⟩,
  ⟨(some 47), none, .mov, [.tm 46]⟩,
  ⟨(some 48), (some (47, true)), .mov, [.tm 7]⟩,
  ⟨(some 49), (some (47, true)), (.cmp .lss), [.tm 48, .cn (.int .i64 3)]⟩,
  ⟨(some 50), (some (47, true)), .mov, [.tm 49]⟩,
  ⟨(some 51), (some (50, false)), .mov, [.tm 9]⟩,
  ⟨(some 52), (some (50, false)), (.cmp .neq), [.tm 51, .cn (.int .i64 7)]⟩,
  ⟨(some 53), (some (47, true)), .or, [.tm 50, .tm 52]⟩,
  ⟨(some 54), none, .and, [.tm 47, .tm 53]⟩])
 (.cond (.tm 54) (.seq (.region [⟨(some 4), none, .mov, [.cn (.bool false)]⟩])
 .ret)
  .skip))
 (.seq (.seq (.region [⟨(some 55), none, .mov, [.tm 9]⟩,
  ⟨(some 56), none, (.cmp .eql), [.tm 55, .cn (.int .i64 0)]⟩])
 (.cond (.tm 56) (.seq (.region [⟨(some 58), none, (.load true 2), [.tm 8]⟩,
  ⟨(some 59), none, .mov, [.tm 7]⟩,
  ⟨(some 60), none, (.call 14), [.tm 58, .tm 59]⟩,
  ⟨(some 57), none, .mov, [.tm 60]⟩,
  ⟨(some 61), none, (.ext 0), [.tm 57]⟩,
  ⟨(some 62), none, (.ext 1), [.tm 57]⟩,
  ⟨(some 10), none, (.alloc [(.int .i64 0), (.int .i64 0)]), []⟩,
  ⟨none, none, (.store 2), [.tm 10, .tm 61]⟩,
  ⟨(some 11), none, .mov, [.tm 62]⟩])
 (.seq (.region [⟨(some 63), none, .mov, [.tm 11]⟩,
  ⟨(some 64), none, (.cmp .neq), [.tm 63, .cn (.int .i64 0)]⟩,
  ⟨(some 65), none, .mov, [.tm 64]⟩,
  ⟨(some 66), (some (65, false)), (.load true 2), [.tm 10]⟩,
  ⟨(some 67), (some (65, false)), (.load true 2), [.tm 5]⟩,
  ⟨(some 68), (some (65, false)), (.eqv true [true, true]), [.tm 66, .tm 67]⟩,
  ⟨(some 69), none, .or, [.tm 65, .tm 68]⟩])
 (.cond (.tm 69) (.seq (.region [⟨(some 4), none, .mov, [.cn (.bool false)]⟩])
 .ret)
  .skip)))
  .skip))
 (.seq (.region [⟨(some 70), none, (.fieldAddr 0), [.tm 5]⟩,
  ⟨(some 71), none, (.load false 1), [.tm 70]⟩,
  ⟨(some 72), none, .rem, [.tm 71, .cn (.int .i64 1000000)]⟩,
  ⟨(some 73), none, (.fieldAddr 0), [.tm 5]⟩,
  ⟨(some 74), none, (.load false 1), [.tm 73]⟩,
  ⟨(some 75), none, .rem, [.tm 74, .cn (.int .i64 1000000)]⟩,
  ⟨(some 76), none, (.fieldAddr 1), [.tm 5]⟩,
  ⟨(some 77), none, (.load false 1), [.tm 76]⟩,
  ⟨(some 78), none, .rem, [.tm 77, .cn (.int .i64 1000000)]⟩,
  ⟨(some 79), none, (.ari .add), [.tm 75, .tm 78]⟩,
  ⟨(some 80), none, (.call 22), [.tm 72, .tm 79]⟩,
  ⟨(some 12), none, (.alloc [(.int .i64 0), (.int .i64 0)]), []⟩,
  ⟨none, none, (.store 2), [.tm 12, .tm 80]⟩])
 (.seq (.region [⟨(some 82), none, (.load true 2), [.tm 12]⟩,
  ⟨(some 83), none, (.call 19), [.tm 82]⟩,
  ⟨(some 81), none, .mov, [.tm 83]⟩,
  ⟨(some 84), none, (.ext 0), [.tm 81]⟩,
  ⟨(some 85), none, (.ext 1), [.tm 81]⟩,
  ⟨(some 13), none, (.alloc [(.int .i64 0), (.int .i64 0)]), []⟩,
  ⟨none, none, (.store 2), [.tm 13, .tm 84]⟩,
  ⟨(some 9), none, .mov, [.tm 85]⟩])
 (.seq (.region [⟨(some 87), none, (.load true 2), [.tm 12]⟩,
  ⟨(some 88), none, (.load true 2), [.tm 12]⟩,
  ⟨(some 89), none, (.call 23), [.tm 87, .tm 88]⟩,
  ⟨(some 86), none, .mov, [.tm 89]⟩,
  ⟨(some 90), none, (.ext 0), [.tm 86]⟩,
  ⟨(some 91), none, (.ext 1), [.tm 86]⟩,
  ⟨(some 14), none, (.alloc [(.int .i64 0), (.int .i64 0)]), []⟩,
  ⟨none, none, (.store 2), [.tm 14, .tm 90]⟩,
  ⟨(some 15), none, .mov, [.tm 91]⟩])
 (.seq (.region [⟨(some 93), none, (.load true 2), [.tm 14]⟩,
  ⟨(some 94), none, (.call 17), [.tm 93]⟩,
  ⟨(some 92), none, .mov, [.tm 94]⟩,
  ⟨(some 95), none, (.ext 0), [.tm 92]⟩,
  ⟨(some 96), none, (.ext 1), [.tm 92]⟩,
  ⟨(some 16), none, (.alloc [(.int .i64 0), (.int .i64 0)]), []⟩,
  ⟨none, none, (.store 2), [.tm 16, .tm 95]⟩,
  ⟨(some 17), none, .mov, [.tm 96]⟩])
 (.seq (.region [⟨(some 98), none, (.load true 2), [.tm 13]⟩,
  ⟨(some 99), none, (.call 10), [.tm 98, .cn (.int .i64 4), .cn (.int .i64 1)]⟩,
  ⟨(some 97), none, .mov, [.tm 99]⟩,
  ⟨(some 100), none, (.ext 0), [.tm 97]⟩,
  ⟨(some 101), none, (.ext 1), [.tm 97]⟩,
  ⟨(some 18), none, (.alloc [(.int .i64 0), (.int .i64 0)]), []⟩,
  ⟨none, none, (.store 2), [.tm 18, .tm 100]⟩,
  ⟨(some 19), none, .mov, [.tm 101]⟩])
 (.seq (.region [⟨(some 102), none, .mov, [.tm 9]⟩,
  ⟨(some 103), none, (.cmp .eql), [.tm 102, .cn (.int .i64 0)]⟩,
  ⟨(some 104), none, .mov, [.tm 103]⟩,
  ⟨(some 105), (some (104, true)), .mov, [.tm 15]⟩,
  ⟨(some 106), (some (104, true)), (.cmp .eql), [.tm 105, .cn (.int .i64 0)]⟩,
  ⟨(some 107), none, .and, [.tm 104, .tm 106]⟩,
  ⟨(some 108), none, .mov, [.tm 107]⟩,
  ⟨(some 109), (some (108, true)), .mov, [.tm 17]⟩,
  ⟨(some 110), (some (108, true)), (.cmp .eql), [.tm 109, .cn (.int .i64 0)]⟩,
  ⟨(some 111), none, .and, [.tm 108, .tm 110]⟩,
  ⟨(some 112), none, .mov, [.tm 111]⟩,
  ⟨(some 113), (some (112, true)), .mov, [.tm 19]⟩,
  ⟨(some 114), (some (112, true)), (.cmp .eql), [.tm 113, .cn (.int .i64 0)]⟩,
  ⟨(some 115), none, .and, [.tm 112, .tm 114]⟩,
  ⟨(some 116), none, .mov, [.tm 115]⟩,
  ⟨(some 117), (some (116, true)), (.fieldAddr 0), [.tm 18]⟩,
  ⟨(some 118), (some (116, true)), (.load false 1), [.tm 117]⟩,
  ⟨(some 119), (some (116, true)), (.fieldAddr 0), [.tm 16]⟩,
  ⟨(some 120), (some (116, true)), (.load false 1), [.tm 119]⟩,
  ⟨(some 121), (some (116, true)), (.cmp .leq), [.tm 118, .tm 120]⟩,
  ⟨(some 122), none, .and, [.tm 116, .tm 121]⟩,
  ⟨(some 123), none, .mov, [.tm 122]⟩,
  ⟨(some 124), (some (123, true)), (.fieldAddr 0), [.tm 18]⟩,
  ⟨(some 125), (some (123, true)), (.load false 1), [.tm 124]⟩,
  ⟨(some 126), (some (123, true)), (.ari .add), [.tm 125, .cn (.int .i64 4)]⟩,
  ⟨(some 127), (some (123, true)), (.fieldAddr 0), [.tm 16]⟩,
  ⟨(some 128), (some (123, true)), (.load false 1), [.tm 127]⟩,
  ⟨(some 129), (some (123, true)), (.cmp .gtr), [.tm 126, .tm 128]⟩,
  ⟨(some 130), none, .and, [.tm 123, .tm 129]⟩,
  ⟨(some 131), none, .mov, [.tm 130]⟩,
  ⟨(some 132), (some (131, true)), (.fieldAddr 1), [.tm 18]⟩,
  ⟨(some 133), (some (131, true)), (.load false 1), [.tm 132]⟩,
  ⟨(some 134), (some (131, true)), (.fieldAddr 1), [.tm 16]⟩,
  ⟨(some 135), (some (131, true)), (.load false 1), [.tm 134]⟩,
  ⟨(some 136), (some (131, true)), (.ari .sub), [.tm 135, .cn (.int .i64 4)]⟩,
  ⟨(some 137), (some (131, true)), (.cmp .geq), [.tm 133, .tm 136]⟩,
  ⟨(some 138), none, .and, [.tm 131, .tm 137]⟩,
  ⟨(some 139), none, .mov, [.tm 138]⟩,
  ⟨(some 140), (some (139, true)), (.fieldAddr 1), [.tm 18]⟩,
  ⟨(some 141), (some (139, true)), (.load false 1), [.tm 140]⟩,
  ⟨(some 142), (some (139, true)), (.fieldAddr 1), [.tm 16]⟩,
  ⟨(some 143), (some (139, true)), (.load false 1), [.tm 142]⟩,
  ⟨(some 144), (some (139, true)), (.ari .add), [.tm 143, .cn (.int .i64 4)]⟩,
  ⟨(some 145), (some (139, true)), (.cmp .lss), [.tm 141, .tm 144]⟩,
  ⟨(some 146), none, .and, [.tm 139, .tm 145]⟩,
  ⟨(some 147), none, .mov, [.tm 146]⟩,
  ⟨(some 148), (some (147, true)), (.call 16), []⟩,
  ⟨(some 149), none, .and, [.tm 147, .tm 148]⟩,
  ⟨(some 4), none, .mov, [.tm 149]⟩])
 .ret))))))))))))) }
theorem v5_is : vfunc Try.prog Try.f5 = some v5 := by kernel_rfl


def lawPk : List PSh := [⟨true, shP⟩, ⟨false, [.int .u8]⟩]
theorem wf8 {x : Int} (h : (Lit.int .u8 x).wf = true) : 0 ≤ x ∧ x ≤ 255 := by
  simp only [Lit.wf, Bool.and_eq_true, decide_eq_true_eq, show IntKind.min .u8 = 0 by decide, show IntKind.max .u8 = 255 by decide] at h
  exact h

def A5 : Env := { ct := fun n => match n with | 22 => some mkivC | 21 => some ofiC | 27 => some inC | 16 => some trueC | 24 => some addC | 25 => some subC | 23 => some mulC | 26 => some quoC | 12 => some powC | 14 => some rootC | 17 => some piC | 19 => some discC | 10 => some sclC | _ => none, fn := fun _ => none, meth := fun _ _ => none }
theorem A5_ct22 : A5.ct 22 = some mkivC := rfl
theorem A5_ct21 : A5.ct 21 = some ofiC := rfl
theorem A5_ct27 : A5.ct 27 = some inC := rfl
theorem A5_ct16 : A5.ct 16 = some trueC := rfl
theorem A5_ct24 : A5.ct 24 = some addC := rfl
theorem A5_ct25 : A5.ct 25 = some subC := rfl
theorem A5_ct23 : A5.ct 23 = some mulC := rfl
theorem A5_ct26 : A5.ct 26 = some quoC := rfl
theorem A5_ct12 : A5.ct 12 = some powC := rfl
theorem A5_ct14 : A5.ct 14 = some rootC := rfl
theorem A5_ct17 : A5.ct 17 = some piC := rfl
theorem A5_ct19 : A5.ct 19 = some discC := rfl
theorem A5_ct10 : A5.ct 10 = some sclC := rfl
theorem A5_ok : EnvOk Try.prog A5 := by
  refine ⟨fun f c h => ?_, fun f vf h => ?_, fun _ _ => rfl, by kernel_rfl⟩
  · simp only [A5] at h
    split at h
    · cases h; exact ⟨mkiv_ok, Try.f22, Try.func22, by kernel_rfl, by kernel_rfl⟩
    · cases h; exact ⟨ofi_ok, Try.f21, Try.func21, by kernel_rfl, by kernel_rfl⟩
    · cases h; exact ⟨in_ok, Try.f27, Try.func27, by kernel_rfl, by kernel_rfl⟩
    · cases h; exact ⟨awake_ok, Try.f16, Try.func16, by kernel_rfl, by kernel_rfl⟩
    · cases h; exact ⟨add_ok, Try.f24, Try.func24, by kernel_rfl, by kernel_rfl⟩
    · cases h; exact ⟨sub_ok, Try.f25, Try.func25, by kernel_rfl, by kernel_rfl⟩
    · cases h; exact ⟨mul_ok, Try.f23, Try.func23, by kernel_rfl, by kernel_rfl⟩
    · cases h; exact ⟨quo_ok, Try.f26, Try.func26, by kernel_rfl, by kernel_rfl⟩
    · cases h; exact ⟨pow_ok, Try.f12, Try.func12, by kernel_rfl, by kernel_rfl⟩
    · cases h; exact ⟨root_ok, Try.f14, Try.func14, by kernel_rfl, by kernel_rfl⟩
    · cases h; exact ⟨pi_ok, Try.f17, Try.func17, by kernel_rfl, by kernel_rfl⟩
    · cases h; exact ⟨disc_ok, Try.f19, Try.func19, by kernel_rfl, by kernel_rfl⟩
    · cases h; exact ⟨scl_ok, Try.f10, Try.func10, by kernel_rfl, by kernel_rfl⟩
    · cases h
  · cases h



theorem lawNarrow : (lawC lawPk).ok Try.prog 7 := by
  refine contract Try.func7 v7_is A5_ok 1600 (lawC lawPk) fun args k h => ?_
  obtain ⟨ha, hk⟩ := h
  obtain ⟨_, _, rfl, h1, e1⟩ := okPL_cons_inv ha
  obtain ⟨cs, rfl, hcs⟩ := okP_agg_inv h1
  obtain ⟨_, _, rfl, h2, e2⟩ := okPL_cons_inv e1
  obtain ⟨w, rfl, hw⟩ := okP_one_inv h2
  cases okPL_nil_inv e2
  obtain ⟨p, q, r, s, u, v, rfl, ⟨hp, hq⟩, ⟨hr, hs⟩, hu, hv⟩ := pair_of hcs
  refine ⟨[.agg [.int .i32 p, .int .i32 q, .int .i32 r, .int .i32 s, .int .u32 u, .int .u32 v], .int .u8 w], ⟨leXL_le _ _ (leXL_self _) (by simp only [bndL_cons, bndL_nil, bnd_vs, bnd_int, and_self]), ⟨rfl, rfl⟩, trivial⟩, ?_⟩
  have hk' : k (.bool true) [] := hk
  have hw8 := wf8 hw
  clear h1 h2 e1 ha hcs hk hw
  obtain ⟨ia, xl, xr⟩ := of_law hp hq hu
  obtain ⟨ib, yl, yr⟩ := of_law hr hs hv
  dsimp only [v7, A5_ct21, A5_ct22, A5_ct27, A5_ct16, A5_ct24, A5_ct25, A5_ct23, A5_ct26, A5_ct12, A5_ct17, ofiC, mkivC, inC, trueC, addC, subC, mulC, quoC, powC, piC, iv2C, ivoC, enc2, r_end, r_end1, r_nil, r_op, r_opg, r_runOp, r_op0, r_yld0, r_yld1, r_y, r_rbeg, r_rend, r_rend1, r_rfrm, r_rfrm1, r_range, r_rangeK, r_rangeE, r_draw, r_dnil, r_dop, r_dopg, r_dplq, r_dplh, r_dq, r_dq0, r_dcl1, r_dcl0, r_dct1, r_dct0, r_dgd, r_dgq1, r_dgq0, r_dctG, r_op1, r_eff, r_eff0, r_call, r_call0, r_inl, r_g, r_gq, r_gc, r_effg, r_effg0, r_callg, r_callg0, r_fin, r_pre, r_imp, r_all, r_ex, r_fing, r_preg, r_exg, r_inBlock, r_inLoop, r_frame, r_frame1, r_skip, r_stuck, r_region, r_seq, r_cond, r_cond1, r_block, r_exit, r_exit1, r_exit2, r_ret, r_loop, s_args0, s_args1, s_xt, s_xc, padL, blankL, callee, callArgs, eff, ctOf, getL, setL, S.put, S.upd, unopts, unopt, unoptsO, unoptsB, lazyO, guardOf, gbool, eMov, eNot, eNeg, eConv, eExt, eLenArr, eLen, eLenStr, eEqb, eEqv, allEq, eNil, negIf, eBool2, eCmp, eAri, ari, eBit, eDiv, eSh, eMinMax, foldMin, foldMax, kEq, pure1, cmpB, VO.quiet, resVals, resVal, tupled, popRet, popTo, cond, Option.bind, Option.map, eNew, eBox, asCells, lenH, snocH, eFieldAddr, eField, eLoad, cellsAt, getH, setH, dropL, takeL, mkAgg, lenL, lenS, shift, shiftL, shiftH, viewN, viewL, view, andT, junks, List.append_nil, Nat.beq, eIdxAddr, eIdxArr, idxN_0, idxN_1, idxN_2, idxN_3, eIndex, eStore, storeAt, spliceL, ones, one, eSlice, eSliceArr, bounds, subLo_z, addLo_z, subLo_one, addLo_one, eMake, eAppend, readS, repL, buildCells, chunk, purgeL, purgeLL, purgeH, purge, refs, refsL, List.cons_append, List.nil_append, wrOps, wrAl, wrDops, wrC, junkAt, putAll, putHs, headOf, headK, keepG, List.append_eq, headX, chkP, apartP, apartB, blk, strip, runAl, AL.ho, yld, putPs, lenN, findR, notRound, jumpK, jumpPT, jcode, List.map_cons, List.map_nil, ite_self, reduceIte]
  simp only [true_and, and_true, imp_self, implies_true, decide_eq_true_eq, decide_eq_false_iff_not, Nat.reduceAdd, Nat.reduceLeDiff, Bool.not_not, reduceCtorEq, false_imp_iff, Bool.not_eq_true', Bool.not_eq_false', Bool.false_eq_true, and_self, forall_const, ne_eq, not_false_eq_true, Nat.reduceEqDiff]
  simp only [r32, u32] at hp hq hr hs hu hv
  generalize min p q = a1 at *
  generalize max p q = a2 at *
  generalize min r s = b1 at *
  generalize max r s = b2 at *
  generalize ofF p q u = x at *
  generalize ofF r s v = y at *
  obtain ⟨i1, i2, i3⟩ := ia
  obtain ⟨j1, j2, j3⟩ := ib
  dsimp only at i1 i2 i3 j1 j2 j3
  have ia : iv31 (a1, a2) := ⟨i1, i2, i3⟩
  have ib : iv31 (b1, b2) := ⟨j1, j2, j3⟩
  have hK : IntKind.i64.wrap (w.tmod 3) = w % 3 := by
    rw [Int.tmod_eq_emod_of_nonneg hw8.1, IntWalk.i64_in _ (by omega)]
  obtain ⟨c, d, g, i, l, n, n1, n2, n3, n4, n5, n6, n7, n8, n9⟩ := narrow31 (x := x) (y := y) (K := w % 3) ia ib xl xr yl yr (by omega)
  obtain ⟨sm, bk, m1, m2, m3, m4⟩ := back31 ia ib
  dsimp only at n2 n4 n6 m1 m2 m3 m4
  simp only [hK, n1, n2, n3, n4, n5, n6, m1, m2]
  simp only [inI] at n7 n8 n9
  refine ⟨by omega, by omega, by omega, by omega, by omega, by omega, by omega, by omega, by omega, by omega, by omega, by omega, by omega, by omega, by omega, by omega, by omega, by omega, by omega, by omega, fun hb => ?_, fun _ => ⟨by omega, by omega, by omega, by omega, fun hb => ?_, fun _ => ⟨fun _ => ans_bool hk', fun hz => ⟨by omega, by omega, by omega, by omega, ans_bool ?_⟩⟩⟩⟩
  · exfalso; simp [n7, n8, n9] at hb
  · exfalso; simp [m3, m4] at hb
  · have h0 : ¬ (b1 ≤ 0 ∧ 0 ≤ b2) := by
      simp only [Bool.and_eq_false_iff, decide_eq_false_iff_not] at hz
      omega
    obtain ⟨q', r', o1, o2, o3, o4⟩ := again31 ia ib h0
    simp only [o1, Prod.eta, o2]
    simpa [o3, o4] using hk'

theorem lawTurn : (lawC lawPk).ok Try.prog 5 := by
  refine contract Try.func5 v5_is A5_ok 1600 (lawC lawPk) fun args k h => ?_
  obtain ⟨ha, hk⟩ := h
  obtain ⟨_, _, rfl, h1, e1⟩ := okPL_cons_inv ha
  obtain ⟨cs, rfl, hcs⟩ := okP_agg_inv h1
  obtain ⟨_, _, rfl, h2, e2⟩ := okPL_cons_inv e1
  obtain ⟨w, rfl, hw⟩ := okP_one_inv h2
  cases okPL_nil_inv e2
  obtain ⟨p, q, r, s, u, v, rfl, ⟨hp, hq⟩, ⟨hr, hs⟩, hu, hv⟩ := pair_of hcs
  refine ⟨[.agg [.int .i32 p, .int .i32 q, .int .i32 r, .int .i32 s, .int .u32 u, .int .u32 v], .int .u8 w], ⟨leXL_le _ _ (leXL_self _) (by simp only [bndL_cons, bndL_nil, bnd_vs, bnd_int, and_self]), ⟨rfl, rfl⟩, trivial⟩, ?_⟩
  have hk' : k (.bool true) [] := hk
  have hw8 := wf8 hw
  clear h1 h2 e1 ha hcs hk hw
  obtain ⟨ia, xl, xr⟩ := of_law hp hq hu
  obtain ⟨ib, yl, yr⟩ := of_law hr hs hv
  dsimp only [v5, A5_ct21, A5_ct22, A5_ct27, A5_ct16, A5_ct23, A5_ct10, A5_ct12, A5_ct14, A5_ct17, A5_ct19, ofiC, mkivC, inC, trueC, mulC, sclC, powC, rootC, piC, discC, iv2C, ivoC, enc2, r_end, r_end1, r_nil, r_op, r_opg, r_runOp, r_op0, r_yld0, r_yld1, r_y, r_rbeg, r_rend, r_rend1, r_rfrm, r_rfrm1, r_range, r_rangeK, r_rangeE, r_draw, r_dnil, r_dop, r_dopg, r_dplq, r_dplh, r_dq, r_dq0, r_dcl1, r_dcl0, r_dct1, r_dct0, r_dgd, r_dgq1, r_dgq0, r_dctG, r_op1, r_eff, r_eff0, r_call, r_call0, r_inl, r_g, r_gq, r_gc, r_effg, r_effg0, r_callg, r_callg0, r_fin, r_pre, r_imp, r_all, r_ex, r_fing, r_preg, r_exg, r_inBlock, r_inLoop, r_frame, r_frame1, r_skip, r_stuck, r_region, r_seq, r_cond, r_cond1, r_block, r_exit, r_exit1, r_exit2, r_ret, r_loop, s_args0, s_args1, s_xt, s_xc, padL, blankL, callee, callArgs, eff, ctOf, getL, setL, S.put, S.upd, unopts, unopt, unoptsO, unoptsB, lazyO, guardOf, gbool, eMov, eNot, eNeg, eConv, eExt, eLenArr, eLen, eLenStr, eEqb, eEqv, allEq, eNil, negIf, eBool2, eCmp, eAri, ari, eBit, eDiv, eSh, eMinMax, foldMin, foldMax, kEq, pure1, cmpB, VO.quiet, resVals, resVal, tupled, popRet, popTo, cond, Option.bind, Option.map, eNew, eBox, asCells, lenH, snocH, eFieldAddr, eField, eLoad, cellsAt, getH, setH, dropL, takeL, mkAgg, lenL, lenS, shift, shiftL, shiftH, viewN, viewL, view, andT, junks, List.append_nil, Nat.beq, eIdxAddr, eIdxArr, idxN_0, idxN_1, idxN_2, idxN_3, eIndex, eStore, storeAt, spliceL, ones, one, eSlice, eSliceArr, bounds, subLo_z, addLo_z, subLo_one, addLo_one, eMake, eAppend, readS, repL, buildCells, chunk, purgeL, purgeLL, purgeH, purge, refs, refsL, List.cons_append, List.nil_append, wrOps, wrAl, wrDops, wrC, junkAt, putAll, putHs, headOf, headK, keepG, List.append_eq, headX, chkP, apartP, apartB, blk, strip, runAl, AL.ho, yld, putPs, lenN, findR, notRound, jumpK, jumpPT, jcode, List.map_cons, List.map_nil, ite_self, reduceIte]
  simp only [true_and, and_true, imp_self, implies_true, decide_eq_true_eq, decide_eq_false_iff_not, Nat.reduceAdd, Nat.reduceLeDiff, Bool.not_not, reduceCtorEq, false_imp_iff, Bool.not_eq_true', Bool.not_eq_false', Bool.false_eq_true, and_self, forall_const, ne_eq, not_false_eq_true, Nat.reduceEqDiff]
  simp only [r32, u32] at hp hq hr hs hu hv
  generalize min p q = a1 at *
  generalize max p q = a2 at *
  generalize min r s = b1 at *
  generalize max r s = b2 at *
  generalize ofF p q u = x at *
  generalize ofF r s v = y at *
  obtain ⟨i1, i2, i3⟩ := ia
  obtain ⟨j1, j2, j3⟩ := ib
  dsimp only at i1 i2 i3 j1 j2 j3
  have ia : iv31 (a1, a2) := ⟨i1, i2, i3⟩
  have ib : iv31 (b1, b2) := ⟨j1, j2, j3⟩
  have hK : IntKind.i64.wrap (1 + (IntKind.i64.wrap w).tmod 62) = 1 + w % 62 := by
    rw [IntWalk.i64_in w (by omega), Int.tmod_eq_emod_of_nonneg hw8.1, IntWalk.i64_in _ (by omega)]
  have hK1 : 1 ≤ 1 + w % 62 ∧ 1 + w % 62 ≤ 62 := by omega
  simp only [hK]
  generalize 1 + w % 62 = K at *
  have ha : iv31 (max a1 0, max a2 0) ∧ 0 ≤ max a1 0 := by unfold iv31; dsimp only; omega
  generalize max a1 0 = A1 at *
  generalize max a2 0 = A2 at *
  obtain ⟨ha, hA⟩ := ha
  have hA2 : A1 ≤ A2 ∧ A2 ≤ 2147483647 := ha.2
  have t1 : A1.tmod 1000000 = A1 % 1000000 := Int.tmod_eq_emod_of_nonneg hA
  have t2 : A2.tmod 1000000 = A2 % 1000000 := Int.tmod_eq_emod_of_nonneg (by omega)
  have t3 : IntKind.i64.wrap (A1 % 1000000 + A2 % 1000000) = A1 % 1000000 + A2 % 1000000 := IntWalk.i64_in _ (by omega)
  simp only [t1, t2, t3]
  obtain ⟨d, q', w', f, o1, o2, o3, o4, o5, o6, o7⟩ := disc_law (l := A1 % 1000000) (h := A1 % 1000000 + A2 % 1000000) (by omega) (by omega) (by omega)
  have t4 : IntKind.i64.wrap (f.1 + 4) = f.1 + 4 := IntWalk.i64_in _ (by omega)
  have t5 : IntKind.i64.wrap (w'.2 - 4) = w'.2 - 4 := IntWalk.i64_in _ (by omega)
  have t6 : IntKind.i64.wrap (w'.2 + 4) = w'.2 + 4 := IntWalk.i64_in _ (by omega)
  simp only [o1, o2, Prod.eta, o3, o4, t4, t5, t6]
  have he := pow_err ha hK1
  have hr := root_pow ha hA hK1
  have hfin : (decide True && decide True && decide True && decide True && decide (f.1 ≤ w'.1) && decide (w'.1 < f.1 + 4) && decide (w'.2 - 4 ≤ f.2) && decide (f.2 < w'.2 + 4) && true) = true := by simp [o5]
  refine ⟨by omega, by omega, by omega, by omega, by omega, by omega, fun hx hy => by simp [hx, hy], fun hb => ?_, fun _ => ⟨fun hz => ⟨by omega, by omega, fun hb => ?_, fun _ => ⟨by omega, by omega, by omega, by omega, by omega, by omega, by omega, by omega, by omega, by omega, by omega, ans_bool ?_⟩⟩, fun hz => ⟨by omega, by omega, by omega, by omega, by omega, by omega, by omega, by omega, by omega, by omega, by omega, ans_bool ?_⟩⟩⟩
  · exfalso
    rcases he with h | ⟨h, h3⟩
    · simp [h] at hb
    · simp [h, show ¬ K < 3 by omega] at hb
  · exfalso
    rw [hr hz] at hb
    simp at hb
  · simpa [o5] using hk'
  · simpa [o5] using hk'

end Go.Proofs.Ytdognchniaojoaa
