/- Bellows: the stage's theorem, walked. -/
import Derived.Test.YtliipeebknljdaaW9
import Derived.Test.YtliipeebknljdaaW5
import Derived.Test.YtliipeebknljdaaS6
set_option linter.all false
namespace Go.Proofs.Ytliipeebknljdaa
open Go Go.Vx
set_option maxRecDepth 100000
set_option maxHeartbeats 4000000

def v5 : VF := { ntmps := 221, res := [.tmp 6], body :=
 (.seq (.region [⟨(some 3), none, .box, [.tm 0]⟩,
  ⟨(some 5), none, .box, [.tm 2]⟩,
  ⟨(some 6), none, .mov, [.cn (.bool false)]⟩])
 (.seq (.seq (.region [⟨(some 20), none, .mov, [.tm 1]⟩,
  ⟨(some 21), none, .len, [.tm 20]⟩,
  ⟨(some 22), none, (.cmp .gtr), [.tm 21, .cn (.int .i64 200)]⟩])
 (.cond (.tm 22) (.seq (.region [⟨(some 23), none, (.call 9), []⟩,
  ⟨(some 6), none, .mov, [.tm 23]⟩])
 .ret)
  .skip))
 (.seq (.region [⟨(some 25), none, (.load true 5), [.tm 3]⟩,
  ⟨(some 26), none, .mov, [.tm 1]⟩,
  ⟨(some 27), none, (.call 10), [.tm 25, .tm 26]⟩,
  ⟨(some 24), none, .mov, [.tm 27]⟩,
  ⟨(some 28), none, (.ext 0), [.tm 24]⟩,
  ⟨(some 29), none, (.ext 1), [.tm 24]⟩,
  ⟨(some 7), none, .mov, [.tm 28]⟩,
  ⟨(some 8), none, .mov, [.tm 29]⟩])
 (.seq (.region [⟨(some 31), none, (.load true 5), [.tm 3]⟩,
  ⟨(some 32), none, .mov, [.tm 1]⟩,
  ⟨(some 33), none, (.call 12), [.tm 31, .tm 32]⟩,
  ⟨(some 30), none, .mov, [.tm 33]⟩,
  ⟨(some 34), none, (.ext 0), [.tm 30]⟩,
  ⟨(some 35), none, (.ext 1), [.tm 30]⟩,
  ⟨(some 9), none, .mov, [.tm 34]⟩,
  ⟨(some 10), none, .mov, [.tm 35]⟩])
 (.seq (.region [⟨(some 37), none, (.load true 5), [.tm 3]⟩,
  ⟨(some 38), none, .mov, [.tm 1]⟩,
  ⟨(some 39), none, (.call 14), [.tm 37, .tm 38]⟩,
  ⟨(some 36), none, .mov, [.tm 39]⟩,
  ⟨(some 40), none, (.ext 0), [.tm 36]⟩,
  ⟨(some 41), none, (.ext 1), [.tm 36]⟩,
  ⟨(some 42), none, (.ext 2), [.tm 36]⟩,
  ⟨(some 11), none, .mov, [.tm 40]⟩,
  ⟨(some 12), none, .mov, [.tm 41]⟩,
  ⟨(some 13), none, .mov, [.tm 42]⟩])
 (.seq (.seq (.region [⟨(some 43), none, .mov, [.tm 8]⟩,
  ⟨(some 44), none, (.cmp .neq), [.tm 43, .cn (.int .i64 0)]⟩])
 (.cond (.tm 44) (.seq (.region [⟨(some 45), none, .mov, [.tm 8]⟩,
  ⟨(some 46), none, .mov, [.tm 10]⟩,
  ⟨(some 47), none, (.cmp .eql), [.tm 45, .tm 46]⟩,
  ⟨(some 48), none, .mov, [.tm 47]⟩,
  ⟨(some 49), (some (48, true)), .mov, [.tm 8]⟩,
  ⟨(some 50), (some (48, true)), .mov, [.tm 13]⟩,
  ⟨(some 51), (some (48, true)), (.cmp .eql), [.tm 49, .tm 50]⟩,
  ⟨(some 52), none, .and, [.tm 48, .tm 51]⟩,
  ⟨(some 53), none, .mov, [.tm 52]⟩,
  ⟨(some 54), (some (53, true)), .mov, [.tm 7]⟩,
  ⟨(some 55), (some (53, true)), .len, [.tm 54]⟩,
  ⟨(some 56), (some (53, true)), (.cmp .eql), [.tm 55, .cn (.int .i64 0)]⟩,
  ⟨(some 57), none, .and, [.tm 53, .tm 56]⟩,
  ⟨(some 58), none, .mov, [.tm 57]⟩,
  ⟨(some 59), (some (58, true)), .mov, [.tm 9]⟩,
  ⟨(some 60), (some (58, true)), .len, [.tm 59]⟩,
  ⟨(some 61), (some (58, true)), (.cmp .eql), [.tm 60, .cn (.int .i64 0)]⟩,
  ⟨(some 62), none, .and, [.tm 58, .tm 61]⟩,
  ⟨(some 63), none, .mov, [.tm 62]⟩,
  ⟨(some 64), (some (63, true)), (.call 9), []⟩,
  ⟨(some 65), none, .and, [.tm 63, .tm 64]⟩,
  ⟨(some 6), none, .mov, [.tm 65]⟩])
 .ret)
  .skip))
 (.seq (.seq (.region [⟨(some 66), none, .mov, [.tm 10]⟩,
  ⟨(some 67), none, (.cmp .neq), [.tm 66, .cn (.int .i64 0)]⟩,
  ⟨(some 68), none, .mov, [.tm 67]⟩,
  ⟨(some 69), (some (68, false)), .mov, [.tm 13]⟩,
  ⟨(some 70), (some (68, false)), (.cmp .neq), [.tm 69, .cn (.int .i64 0)]⟩,
  ⟨(some 71), none, .or, [.tm 68, .tm 70]⟩,
  ⟨(some 72), none, .mov, [.tm 71]⟩,
  ⟨(some 73), (some (72, false)), .mov, [.tm 7]⟩,
  ⟨(some 74), (some (72, false)), .len, [.tm 73]⟩,
  ⟨(some 75), (some (72, false)), .mov, [.tm 1]⟩,
  ⟨(some 76), (some (72, false)), .len, [.tm 75]⟩,
  ⟨(some 77), (some (72, false)), (.cmp .neq), [.tm 74, .tm 76]⟩,
  ⟨(some 78), none, .or, [.tm 72, .tm 77]⟩,
  ⟨(some 79), none, .mov, [.tm 78]⟩,
  ⟨(some 80), (some (79, false)), .mov, [.tm 9]⟩,
  ⟨(some 81), (some (79, false)), .len, [.tm 80]⟩,
  ⟨(some 82), (some (79, false)), .mov, [.tm 1]⟩,
  ⟨(some 83), (some (79, false)), .len, [.tm 82]⟩,
  ⟨(some 84), (some (79, false)), (.cmp .neq), [.tm 81, .tm 83]⟩,
  ⟨(some 85), none, .or, [.tm 79, .tm 84]⟩,
  ⟨(some 86), none, .mov, [.tm 85]⟩,
  ⟨(some 87), (some (86, false)), .mov, [.tm 11]⟩,
  ⟨(some 88), (some (86, false)), (.cmp .lss), [.tm 87, .cn (.int .i64 (-1))]⟩,
  ⟨(some 89), none, .or, [.tm 86, .tm 88]⟩,
  ⟨(some 90), none, .mov, [.tm 89]⟩,
  ⟨(some 91), (some (90, false)), .mov, [.tm 12]⟩,
  ⟨(some 92), (some (90, false)), (.cmp .lss), [.tm 91, .cn (.int .i64 (-1))]⟩,
  ⟨(some 93), none, .or, [.tm 90, .tm 92]⟩,
  ⟨(some 94), none, .mov, [.tm 93]⟩,
  ⟨(some 95), (some (94, false)), .mov, [.tm 12]⟩,
  ⟨(some 96), (some (94, false)), .mov, [.tm 1]⟩,
  ⟨(some 97), (some (94, false)), .len, [.tm 96]⟩,
  ⟨(some 98), (some (94, false)), (.cmp .geq), [.tm 95, .tm 97]⟩,
  ⟨(some 99), none, .or, [.tm 94, .tm 98]⟩,
  ⟨(some 100), none, .mov, [.tm 99]⟩,
  ⟨(some 101), (some (100, false)), .mov, [.tm 11]⟩,
  ⟨(some 102), (some (100, false)), (.cmp .geq), [.tm 101, .cn (.int .i64 0)]⟩,
  ⟨(some 103), (some (100, false)), .mov, [.tm 102]⟩,
  ⟨(some 104), (some (103, true)), .mov, [.tm 12]⟩,
  ⟨(some 105), (some (103, true)), (.cmp .geq), [.tm 104, .cn (.int .i64 0)]⟩,
  ⟨(some 106), (some (100, false)), .and, [.tm 103, .tm 105]⟩,
  ⟨(some 107), (some (100, false)), .mov, [.tm 106]⟩,
  ⟨(some 108), (some (107, true)), .mov, [.tm 11]⟩,
  ⟨(some 109), (some (107, true)), .mov, [.tm 12]⟩,
  ⟨(some 110), (some (107, true)), (.cmp .gtr), [.tm 108, .tm 109]⟩,
  ⟨(some 111), (some (100, false)), .and, [.tm 107, .tm 110]⟩,
  ⟨(some 112), none, .or, [.tm 100, .tm 111]⟩,
  ⟨(some 113), none, .mov, [.tm 112]⟩,
  ⟨(some 114), (some (113, false)), .mov, [.tm 11]⟩,
  ⟨(some 115), (some (113, false)), (.cmp .lss), [.tm 114, .cn (.int .i64 0)]⟩,
  ⟨(some 116), (some (113, false)), .mov, [.tm 115]⟩,
  ⟨(some 117), (some (116, true)), .mov, [.tm 12]⟩,
  ⟨(some 118), (some (116, true)), (.cmp .geq), [.tm 117, .cn (.int .i64 0)]⟩,
  ⟨(some 119), (some (113, false)), .and, [.tm 116, .tm 118]⟩,
  ⟨(some 120), none, .or, [.tm 113, .tm 119]⟩])
 (.cond (.tm 120) (.seq (.region [⟨(some 6), none, .mov, [.cn (.bool false)]⟩])
 .ret)
  .skip))
 (.seq (.region [⟨(some 121), none, (.fieldAddr 0), [.tm 3]⟩,
  ⟨(some 122), none, (.load false 1), [.tm 121]⟩,
  ⟨(some 14), none, .mov, [.tm 122]⟩,
  ⟨(some 15), none, .mov, [.cn (.bool false)]⟩])
 (.seq (.seq (.region [⟨(some 16), none, .mov, [.cn (.int .i64 0)]⟩])
 (.block 0 (.loop (.seq (.seq (.region [⟨(some 123), none, .mov, [.tm 16]⟩,
  ⟨(some 124), none, .mov, [.tm 1]⟩,
  ⟨(some 125), none, .len, [.tm 124]⟩,
  ⟨(some 126), none, (.cmp .lss), [.tm 123, .tm 125]⟩])
 (.cond (.tm 126) .skip
  (.exit 0)))
 (.seq (.block 1 (.seq (.draw [] [⟨⟨(some 130), none, (.load true 5), [.tm 3]⟩, []⟩,
  ⟨⟨(some 131), none, .mov, [.tm 14]⟩, []⟩,
  ⟨⟨(some 132), none, (.fieldAddr 3), [.tm 3]⟩, []⟩,
  ⟨⟨(some 133), none, (.load true 2), [.tm 132]⟩, []⟩,
  ⟨⟨(some 134), none, (.fieldAddr 0), [.tm 5]⟩, []⟩,
  ⟨⟨(some 135), none, (.load false 1), [.tm 134]⟩, []⟩,
  ⟨⟨(some 136), none, .mov, [.tm 16]⟩, []⟩,
  ⟨⟨(some 139), none, .mov, [.tm 1]⟩, []⟩,
  ⟨⟨(some 140), none, .mov, [.tm 16]⟩, []⟩,
  ⟨⟨(some 141), none, (.idxAddr 2), [.tm 139, .tm 140]⟩, []⟩,
  ⟨⟨(some 142), none, (.load true 2), [.tm 141]⟩, []⟩,
  ⟨⟨(some 143), none, (.fieldAddr 1), [.tm 5]⟩, []⟩,
  ⟨⟨(some 144), none, (.load false 1), [.tm 143]⟩, []⟩,
  ⟨⟨(some 145), none, .mov, [.tm 16]⟩, []⟩,
  ⟨⟨(some 137), none, (.call 25), [.tm 135, .tm 136]⟩, []⟩,
  ⟨⟨(some 138), none, (.call 24), [.tm 133, .tm 137]⟩, []⟩,
  ⟨⟨(some 146), none, (.call 25), [.tm 144, .tm 145]⟩, []⟩,
  ⟨⟨(some 147), none, (.call 24), [.tm 142, .tm 146]⟩, []⟩,
  ⟨⟨(some 148), none, (.call 23), [.tm 130, .tm 131, .tm 138, .tm 147]⟩, []⟩,
  ⟨⟨(some 129), none, .mov, [.tm 148]⟩, []⟩,
  ⟨⟨(some 149), none, (.ext 0), [.tm 129]⟩, []⟩,
  ⟨⟨(some 150), none, (.ext 1), [.tm 129]⟩, []⟩,
  ⟨⟨(some 151), none, (.ext 2), [.tm 129]⟩, []⟩,
  ⟨⟨(some 17), none, .mov, [.tm 149]⟩, []⟩,
  ⟨⟨(some 18), none, .mov, [.tm 150]⟩, []⟩,
  ⟨⟨(some 19), none, .mov, [.tm 151]⟩, []⟩])
 (.seq (.seq (.draw [] [⟨⟨(some 152), none, .mov, [.tm 19]⟩, []⟩,
  ⟨⟨(some 153), none, .mov, [.tm 152]⟩, []⟩,
  ⟨⟨(some 154), (some (153, true)), .mov, [.tm 11]⟩, []⟩,
  ⟨⟨(some 155), (some (153, true)), (.cmp .lss), [.tm 154, .cn (.int .i64 0)]⟩, []⟩,
  ⟨⟨(some 156), (some (153, true)), .mov, [.tm 155]⟩, []⟩,
  ⟨⟨(some 157), (some (156, false)), .mov, [.tm 16]⟩, []⟩,
  ⟨⟨(some 158), (some (156, false)), .mov, [.tm 11]⟩, []⟩,
  ⟨⟨(some 159), (some (156, false)), (.cmp .lss), [.tm 157, .tm 158]⟩, []⟩,
  ⟨⟨(some 160), (some (153, true)), .or, [.tm 156, .tm 159]⟩, []⟩,
  ⟨⟨(some 161), none, .and, [.tm 153, .tm 160]⟩, []⟩,
  ⟨⟨(some 162), none, .mov, [.tm 161]⟩, []⟩,
  ⟨⟨(some 163), (some (162, false)), .mov, [.tm 17]⟩, []⟩,
  ⟨⟨(some 164), (some (162, false)), .mov, [.tm 7]⟩, []⟩,
  ⟨⟨(some 165), (some (162, false)), .mov, [.tm 16]⟩, []⟩,
  ⟨⟨(some 166), (some (162, false)), (.idxAddr 2), [.tm 164, .tm 165]⟩, []⟩,
  ⟨⟨(some 167), (some (162, false)), (.fieldAddr 0), [.tm 166]⟩, []⟩,
  ⟨⟨(some 168), (some (162, false)), (.load false 1), [.tm 167]⟩, []⟩,
  ⟨⟨(some 169), (some (162, false)), (.cmp .lss), [.tm 163, .tm 168]⟩, []⟩,
  ⟨⟨(some 170), none, .or, [.tm 162, .tm 169]⟩, []⟩,
  ⟨⟨(some 171), none, .mov, [.tm 170]⟩, []⟩,
  ⟨⟨(some 172), (some (171, false)), .mov, [.tm 17]⟩, []⟩,
  ⟨⟨(some 173), (some (171, false)), .mov, [.tm 7]⟩, []⟩,
  ⟨⟨(some 174), (some (171, false)), .mov, [.tm 16]⟩, []⟩,
  ⟨⟨(some 175), (some (171, false)), (.idxAddr 2), [.tm 173, .tm 174]⟩, []⟩,
  ⟨⟨(some 176), (some (171, false)), (.fieldAddr 1), [.tm 175]⟩, []⟩,
  ⟨⟨(some 177), (some (171, false)), (.load false 1), [.tm 176]⟩, []⟩,
  ⟨⟨(some 178), (some (171, false)), (.cmp .gtr), [.tm 172, .tm 177]⟩, []⟩,
  ⟨⟨(some 179), none, .or, [.tm 171, .tm 178]⟩, []⟩,
  ⟨⟨(some 180), none, .mov, [.tm 179]⟩, []⟩,
  ⟨⟨(some 181), (some (180, false)), .mov, [.tm 18]⟩, []⟩,
  ⟨⟨(some 182), (some (180, false)), .mov, [.tm 9]⟩, []⟩,
  ⟨⟨(some 183), (some (180, false)), .mov, [.tm 16]⟩, []⟩,
  ⟨⟨(some 184), (some (180, false)), (.idxAddr 2), [.tm 182, .tm 183]⟩, []⟩,
  ⟨⟨(some 185), (some (180, false)), (.fieldAddr 0), [.tm 184]⟩, []⟩,
  ⟨⟨(some 186), (some (180, false)), (.load false 1), [.tm 185]⟩, []⟩,
  ⟨⟨(some 187), (some (180, false)), (.cmp .lss), [.tm 181, .tm 186]⟩, []⟩,
  ⟨⟨(some 188), none, .or, [.tm 180, .tm 187]⟩, []⟩,
  ⟨⟨(some 189), none, .mov, [.tm 188]⟩, []⟩,
  ⟨⟨(some 190), (some (189, false)), .mov, [.tm 18]⟩, []⟩,
  ⟨⟨(some 191), (some (189, false)), .mov, [.tm 9]⟩, []⟩,
  ⟨⟨(some 192), (some (189, false)), .mov, [.tm 16]⟩, []⟩,
  ⟨⟨(some 193), (some (189, false)), (.idxAddr 2), [.tm 191, .tm 192]⟩, []⟩,
  ⟨⟨(some 194), (some (189, false)), (.fieldAddr 1), [.tm 193]⟩, []⟩,
  ⟨⟨(some 195), (some (189, false)), (.load false 1), [.tm 194]⟩, []⟩,
  ⟨⟨(some 196), (some (189, false)), (.cmp .gtr), [.tm 190, .tm 195]⟩, []⟩,
  ⟨⟨(some 197), none, .or, [.tm 189, .tm 196]⟩, []⟩,
  ⟨⟨(some 198), none, .mov, [.tm 197]⟩, []⟩,
  ⟨⟨(some 199), (some (198, false)), .mov, [.tm 7]⟩, []⟩,
  ⟨⟨(some 200), (some (198, false)), .mov, [.tm 16]⟩, []⟩,
  ⟨⟨(some 201), (some (198, false)), (.idxAddr 2), [.tm 199, .tm 200]⟩, []⟩,
  ⟨⟨(some 202), (some (198, false)), (.fieldAddr 1), [.tm 201]⟩, []⟩,
  ⟨⟨(some 203), (some (198, false)), (.load false 1), [.tm 202]⟩, []⟩,
  ⟨⟨(some 204), (some (198, false)), (.fieldAddr 2), [.tm 3]⟩, []⟩,
  ⟨⟨(some 205), (some (198, false)), (.load false 1), [.tm 204]⟩, []⟩,
  ⟨⟨(some 206), (some (198, false)), (.cmp .gtr), [.tm 203, .tm 205]⟩, []⟩,
  ⟨⟨(some 207), none, .or, [.tm 198, .tm 206]⟩, []⟩])
 (.cond (.tm 207) (.seq (.region [⟨(some 6), none, .mov, [.cn (.bool false)]⟩])
 .ret)
  .skip))
 (.seq (.region [⟨(some 208), none, .mov, [.tm 15]⟩,
  ⟨(some 209), none, .mov, [.tm 208]⟩,
  ⟨(some 210), (some (209, false)), .mov, [.tm 19]⟩,
  ⟨(some 211), none, .or, [.tm 209, .tm 210]⟩,
  ⟨(some 15), none, .mov, [.tm 211]⟩])
 (.seq (.seq (.region [⟨(some 212), none, .mov, [.tm 16]⟩,
  ⟨(some 213), none, .mov, [.tm 12]⟩,
  ⟨(some 214), none, (.cmp .eql), [.tm 212, .tm 213]⟩,
  ⟨(some 215), none, .mov, [.tm 214]⟩,
  ⟨(some 216), (some (215, true)), .mov, [.tm 15]⟩,
  ⟨(some 217), (some (215, true)), .not, [.tm 216]⟩,
  ⟨(some 218), none, .and, [.tm 215, .tm 217]⟩])
 (.cond (.tm 218) (.seq (.region [⟨(some 6), none, .mov, [.cn (.bool false)]⟩])
 .ret)
  .skip))
 (.region [⟨(some 219), none, .mov, [.tm 17]⟩,
  ⟨(some 14), none, .mov, [.tm 219]⟩]))))))
 (.region [⟨(some 127), none, .mov, [.tm 16]⟩,
  ⟨(some 128), none, (.ari .add), [.tm 127, .cn (.int .i64 1)]⟩,
  ⟨(some 16), none, .mov, [.tm 128]⟩]))))))
 (.seq (.region [⟨(some 220), none, (.call 9), []⟩,
  ⟨(some 6), none, .mov, [.tm 220]⟩])
 .ret)))))))))) }
theorem v5_is : vfunc Try.prog Try.f5 = some v5 := by kernel_rfl
def v24 : VF := { ntmps := 27, res := [.tmp 4], body :=
 (.seq (.region [⟨(some 2), none, .box, [.tm 0]⟩,
  ⟨(some 4), none, .mov, [.cn (.int .i64 0)]⟩])
 (.seq (.region [⟨(some 6), none, (.fieldAddr 1), [.tm 2]⟩,
  ⟨(some 7), none, (.load false 1), [.tm 6]⟩,
  ⟨(some 8), none, (.fieldAddr 0), [.tm 2]⟩,
  ⟨(some 9), none, (.load false 1), [.tm 8]⟩,
  ⟨(some 10), none, (.ari .sub), [.tm 7, .tm 9]⟩,
  ⟨(some 11), none, (.ari .add), [.tm 10, .cn (.int .i64 1)]⟩,
  ⟨(some 5), none, .mov, [.tm 11]⟩])
 (.seq (.seq (.region [⟨(some 12), none, .mov, [.tm 1]⟩,
  ⟨(some 13), none, (.cmp .eql), [.tm 12, .cn (.int .u32 4294967295)]⟩,
  ⟨(some 14), none, .mov, [.tm 13]⟩,
  ⟨(some 15), (some (14, false)), .mov, [.tm 5]⟩,
  ⟨(some 16), (some (14, false)), (.cmp .lss), [.tm 15, .cn (.int .i64 1)]⟩,
  ⟨(some 17), none, .or, [.tm 14, .tm 16]⟩])
 (.cond (.tm 17) (.seq (.region [⟨(some 18), none, (.fieldAddr 1), [.tm 2]⟩,
  ⟨(some 19), none, (.load false 1), [.tm 18]⟩,
  ⟨(some 4), none, .mov, [.tm 19]⟩])
 .ret)
  .skip))
 (.seq (.draw [] [⟨⟨(some 20), none, (.fieldAddr 0), [.tm 2]⟩, []⟩,
  ⟨⟨(some 21), none, (.load false 1), [.tm 20]⟩, []⟩,
  ⟨⟨(some 22), none, .mov, [.tm 1]⟩, []⟩,
  ⟨⟨(some 23), none, (.conv .i64), [.tm 22]⟩, []⟩,
  ⟨⟨(some 24), none, .mov, [.tm 5]⟩, []⟩,
  ⟨⟨(some 25), none, .rem, [.tm 23, .tm 24]⟩, []⟩,
  ⟨⟨(some 26), none, (.ari .add), [.tm 21, .tm 25]⟩, []⟩,
  ⟨⟨(some 4), none, .mov, [.tm 26]⟩, []⟩])
 .ret)))) }
theorem v24_is : vfunc Try.prog Try.f24 = some v24 := by kernel_rfl
def v25 : VF := { ntmps := 15, res := [.tmp 4], body :=
 (.seq (.region [⟨(some 4), none, .mov, [.cn (.int .u32 0)]⟩])
 (.seq (.seq (.region [⟨(some 5), none, .mov, [.tm 0]⟩,
  ⟨(some 6), none, .len, [.tm 5]⟩,
  ⟨(some 7), none, (.cmp .eql), [.tm 6, .cn (.int .i64 0)]⟩])
 (.cond (.tm 7) (.seq (.region [⟨(some 4), none, .mov, [.cn (.int .u32 0)]⟩])
 .ret)
  .skip))
 (.seq (.region [⟨(some 8), none, .mov, [.tm 0]⟩,
  ⟨(some 9), none, .mov, [.tm 1]⟩,
  ⟨(some 10), none, .mov, [.tm 0]⟩,
  ⟨(some 11), none, .len, [.tm 10]⟩,
  ⟨(some 12), none, .rem, [.tm 9, .tm 11]⟩,
  ⟨(some 13), none, (.idxAddr 1), [.tm 8, .tm 12]⟩,
  ⟨(some 14), none, (.load false 1), [.tm 13]⟩,
  ⟨(some 4), none, .mov, [.tm 14]⟩])
 .ret))) }
theorem v25_is : vfunc Try.prog Try.f25 = some v25 := by kernel_rfl


def encU (x : Int) : List SV := [.int .u32 x]
def pickF (l : List Int) (i : Nat) : Int := if l.length = 0 then 0 else l.getD (i % l.length) default

def memC : Ctr := { alias := false, of := fun a => match a with
  | [.agg [.int .i64 x, .int .i64 y], .int .u32 n] => .pre (0 ≤ n ∧ n ≤ 4294967295) (.fin (.int .i64 (memF (x, y) n)) [])
  | _ => noC }
def pickC : Ctr := { alias := false, of := fun a => match a with
  | [.vs _ _ m sz get, .int .i64 j] => .ex (List Int) fun l => .ex Nat fun i => .pre (lsP 1 encU m sz get l ∧ j = (i : Int) ∧ l.length ≤ 9223372036854775807) (.fin (.int .u32 (pickF l i)) [])
  | _ => noC }

def P0 : Env := { ct := fun _ => none, fn := fun _ => none, meth := fun _ _ => none }
theorem P0_ok : EnvOk Try.prog P0 := by
  refine ⟨fun f c h => ?_, fun f vf h => ?_, fun _ _ => rfl, by kernel_rfl⟩
  · cases h
  · cases h


theorem mem24 : memC.ok Try.prog 24 := by
  refine contract Try.func24 v24_is P0_ok 200 memC fun args k h => ⟨args, ?_⟩
  simp only [memC] at h
  split at h
  · rename_i x y n
    obtain ⟨hn, h⟩ := h
    refine ⟨by simp [leL, le], ?_⟩
    dsimp only [v24, r_end, r_end1, r_nil, r_op, r_opg, r_runOp, r_op0, r_yld0, r_yld1, r_y, r_rbeg, r_rend, r_rend1, r_rfrm, r_rfrm1, r_range, r_rangeK, r_rangeE, r_draw, r_dnil, r_dop, r_dopg, r_dplq, r_dplh, r_dq, r_dq0, r_dcl1, r_dcl0, r_dct1, r_dct0, r_dgd, r_dgq1, r_dgq0, r_dctG, r_op1, r_eff, r_eff0, r_call, r_call0, r_inl, r_g, r_gq, r_gc, r_effg, r_effg0, r_callg, r_callg0, r_fin, r_pre, r_imp, r_all, r_ex, r_fing, r_preg, r_exg, r_inBlock, r_inLoop, r_frame, r_frame1, r_skip, r_region, r_seq, r_cond, r_cond1, r_block, r_exit, r_exit1, r_exit2, r_ret, r_loop, s_args0, s_args1, s_xt, s_xc, padL, blankL, callee, callArgs, eff, ctOf, getL, setL, S.put, S.upd, unopts, unopt, unoptsO, unoptsB, lazyO, guardOf, gbool, eMov, eNot, eNeg, eConv, eExt, eLenArr, eLen, eLenStr, eEqb, eEqv, allEq, eNil, negIf, eBool2, eCmp, eAri, ari, eBit, eDiv, eSh, eMinMax, foldMin, foldMax, kEq, pure1, cmpB, VO.quiet, resVals, resVal, tupled, popRet, popTo, cond, Option.bind, Option.map, eNew, eBox, asCells, lenH, snocH, eFieldAddr, eField, eLoad, cellsAt, getH, setH, dropL, takeL, mkAgg, lenL, lenS, shift, shiftL, shiftH, viewN, viewL, view, andT, junks, List.append_nil, Nat.beq, eIdxAddr, eIdxArr, eIndex, eStore, storeAt, spliceL, ones, one, eSlice, eSliceArr, bounds, subLo, addLo, eMake, eAppend, readS, repL, buildCells, chunk, purgeL, purgeLL, purgeH, purge, refs, refsL, List.cons_append, List.nil_append, wrOps, wrAl, wrDops, wrC, junkAt, putAll, putHs, headOf, headK, keepG, List.append_eq, headX, chkP, apartP, apartB, blk, strip, runAl, yld, putPs, lenN, findR, notRound, jumpK, jumpPT, jcode, List.map_cons, List.map_nil, ite_self, reduceIte]
    simp only [true_and, and_true, imp_self, implies_true, decide_eq_true_eq, decide_eq_false_iff_not, Nat.reduceAdd, Nat.reduceLeDiff, Bool.not_not, reduceCtorEq, false_imp_iff, Bool.not_eq_true', Bool.not_eq_false', Bool.false_eq_true, and_self, forall_const, ne_eq, not_false_eq_true, Nat.reduceEqDiff]
    refine ⟨fun hb => ans_int ?_, fun hb => ⟨?_, ans_int ?_⟩⟩
    · rw [Bool.or_eq_true, decide_eq_true_eq, decide_eq_true_eq] at hb
      have hb' : n = 4294967295 ∨ w6 (w6 (y - x) + 1) < 1 := hb
      rw [memF, if_pos hb'] at h; exact h
    · rw [Bool.or_eq_false_iff, decide_eq_false_iff_not, decide_eq_false_iff_not] at hb
      omega
    · rw [Bool.or_eq_false_iff, decide_eq_false_iff_not, decide_eq_false_iff_not] at hb
      rw [memF, if_neg (fun hh => hh.elim hb.1 hb.2)] at h
      rw [w6_raw (x := n) (by omega) (by omega)]; exact h
  · exact h.1.elim

theorem pick25 : pickC.ok Try.prog 25 := by
  refine contract Try.func25 v25_is P0_ok 200 pickC fun args k h => ?_
  simp only [pickC] at h
  split at h
  · rename_i tt z m sz get j
    obtain ⟨l, i, ⟨⟨rfl, rfl, hg⟩, rfl, hmax⟩, h⟩ := h
    refine ⟨[.vs tt z l.length 1 (fun k => encU (l.getD k default)), .int .i64 i], by simpa [leL, le] using hg, ?_⟩
    dsimp only [v25, encU, r_end, r_end1, r_nil, r_op, r_opg, r_runOp, r_op0, r_yld0, r_yld1, r_y, r_rbeg, r_rend, r_rend1, r_rfrm, r_rfrm1, r_range, r_rangeK, r_rangeE, r_draw, r_dnil, r_dop, r_dopg, r_dplq, r_dplh, r_dq, r_dq0, r_dcl1, r_dcl0, r_dct1, r_dct0, r_dgd, r_dgq1, r_dgq0, r_dctG, r_op1, r_eff, r_eff0, r_call, r_call0, r_inl, r_g, r_gq, r_gc, r_effg, r_effg0, r_callg, r_callg0, r_fin, r_pre, r_imp, r_all, r_ex, r_fing, r_preg, r_exg, r_inBlock, r_inLoop, r_frame, r_frame1, r_skip, r_region, r_seq, r_cond, r_cond1, r_block, r_exit, r_exit1, r_exit2, r_ret, r_loop, s_args0, s_args1, s_xt, s_xc, padL, blankL, callee, callArgs, eff, ctOf, getL, setL, S.put, S.upd, unopts, unopt, unoptsO, unoptsB, lazyO, guardOf, gbool, eMov, eNot, eNeg, eConv, eExt, eLenArr, eLen, eLenStr, eEqb, eEqv, allEq, eNil, negIf, eBool2, eCmp, eAri, ari, eBit, eDiv, eSh, eMinMax, foldMin, foldMax, kEq, pure1, cmpB, VO.quiet, resVals, resVal, tupled, popRet, popTo, cond, Option.bind, Option.map, eNew, eBox, asCells, lenH, snocH, eFieldAddr, eField, eLoad, cellsAt, getH, setH, dropL, takeL, mkAgg, lenL, lenS, shift, shiftL, shiftH, viewN, viewL, view, andT, junks, List.append_nil, Nat.beq, eIdxAddr, eIdxArr, eIndex, eStore, storeAt, spliceL, ones, one, eSlice, eSliceArr, bounds, subLo, addLo, eMake, eAppend, readS, repL, buildCells, chunk, purgeL, purgeLL, purgeH, purge, refs, refsL, List.cons_append, List.nil_append, wrOps, wrAl, wrDops, wrC, junkAt, putAll, putHs, headOf, headK, keepG, List.append_eq, headX, chkP, apartP, apartB, blk, strip, runAl, yld, putPs, lenN, findR, notRound, jumpK, jumpPT, jcode, List.map_cons, List.map_nil, ite_self, reduceIte]
    simp only [true_and, and_true, imp_self, implies_true, decide_eq_true_eq, decide_eq_false_iff_not, Nat.reduceAdd, Nat.reduceLeDiff, Bool.not_not, reduceCtorEq, false_imp_iff, Bool.not_eq_true', Bool.not_eq_false', Bool.false_eq_true, and_self, forall_const, ne_eq, not_false_eq_true, Nat.reduceEqDiff]
    refine ⟨fun hb => ?_, fun hb => ?_⟩
    · rw [pickF, if_pos (by omega)] at h
      exact ans_int h
    · have e : ((i : Int)).tmod (l.length : Int) = ((i % l.length : Nat) : Int) := by
        rw [Int.tmod_eq_emod_of_nonneg (by omega)]; rfl
      have hlt := Nat.mod_lt i (by omega : 0 < l.length)
      rw [e]
      refine ⟨hb, ⟨by omega, by omega⟩, ans_int ?_⟩
      rw [pickF, if_neg (by omega)] at h
      rw [Int.toNat_natCast]
      exact h
  · exact h.1.elim

def L2 : Env := { ct := fun n => match n with | 9 => some trueC | 10 => some runC | 12 => some givC | 14 => some failsC | 23 => some tickC | 24 => some memC | 25 => some pickC | _ => none, fn := fun _ => none, meth := fun _ _ => none }
theorem L2_ct9 : L2.ct 9 = some trueC := rfl
theorem L2_ct10 : L2.ct 10 = some runC := rfl
theorem L2_ct12 : L2.ct 12 = some givC := rfl
theorem L2_ct14 : L2.ct 14 = some failsC := rfl
theorem L2_ct23 : L2.ct 23 = some tickC := rfl
theorem L2_ct24 : L2.ct 24 = some memC := rfl
theorem L2_ct25 : L2.ct 25 = some pickC := rfl
theorem L2_ok : EnvOk Try.prog L2 := by
  refine ⟨fun f c h => ?_, fun f vf h => ?_, fun _ _ => rfl, by kernel_rfl⟩
  · simp only [L2] at h
    split at h
    · cases h; exact ⟨awake9, Try.f9, Try.func9, by kernel_rfl, by kernel_rfl⟩
    · cases h; exact ⟨run10, Try.f10, Try.func10, by kernel_rfl, by kernel_rfl⟩
    · cases h; exact ⟨giv12, Try.f12, Try.func12, by kernel_rfl, by kernel_rfl⟩
    · cases h; exact ⟨fails14, Try.f14, Try.func14, by kernel_rfl, by kernel_rfl⟩
    · cases h; exact ⟨tick23, Try.f23, Try.func23, by kernel_rfl, by kernel_rfl⟩
    · cases h; exact ⟨mem24, Try.f24, Try.func24, by kernel_rfl, by kernel_rfl⟩
    · cases h; exact ⟨pick25, Try.f25, Try.func25, by kernel_rfl, by kernel_rfl⟩
    · cases h
  · cases h


def shU : List Sh := [.slice [.int .u32], .slice [.int .u32]]
def lawN : List PSh := [⟨true, shB⟩, ⟨false, [.slice bare2]⟩, ⟨true, shU⟩]

theorem us_of {v : SV} (h : okS (.slice [.int .u32]) v) : ∃ (z : Bool) (l : List Int), l.length ≤ maxLen ∧ leX v (.vs false z l.length 1 (fun k => encU (l.getD k default))) ∧ ∀ k, k < l.length → 0 ≤ l.getD k default ∧ l.getD k default ≤ 4294967295 := by
  obtain ⟨z, n, get, rfl, hn, hg⟩ := h
  obtain ⟨l, hl, hp⟩ := list_of (P := fun k (a : Int) => leXL (get k) (encU a) ∧ 0 ≤ a ∧ a ≤ 4294967295) fun k hk => by
    obtain ⟨_, _, e, ⟨n1, rfl, hw⟩, e1⟩ := okSL_cons_inv (hg k hk)
    cases okSL_nil_inv e1
    refine ⟨n1, by rw [e]; exact leXL_self _, ?_⟩
    simp only [Lit.wf, Bool.and_eq_true, decide_eq_true_eq] at hw
    exact hw
  exact ⟨z, l, by rw [hl]; exact hn, ⟨fun h => h, rfl, hl.symm, rfl, fun k hk => (hp k hk).1⟩, fun k hk => (hp k (by omega)).2⟩

theorem pick_ok {l : List Int} {i : Nat} (h : ∀ k, k < l.length → 0 ≤ l.getD k default ∧ l.getD k default ≤ 4294967295) : 0 ≤ pickF l i ∧ pickF l i ≤ 4294967295 := by
  unfold pickF
  split
  · omega
  · exact h _ (Nat.mod_lt _ (by omega))

theorem lawInside : (lawC lawN).ok Try.prog 5 := by
  refine contract Try.func5 v5_is L2_ok 1200 (lawC lawN) fun args k h => ?_
  obtain ⟨ha, hk⟩ := h
  obtain ⟨_, _, rfl, h1, e1⟩ := okPL_cons_inv ha
  obtain ⟨cs, rfl, hcs⟩ := okP_agg_inv h1
  obtain ⟨v, _, rfl, h2, e2⟩ := okPL_cons_inv e1
  obtain ⟨_, _, rfl, h3, e3⟩ := okPL_cons_inv e2
  obtain ⟨ps, rfl, hps⟩ := okP_agg_inv h3
  cases okPL_nil_inv e3
  obtain ⟨⟨st, lo, hi, il, ih⟩, rfl⟩ := bel_of hcs
  obtain ⟨z, l, hmax, hle⟩ := ivs_of (okP_one_inv h2)
  obtain ⟨pv, _, rfl, p1, e4⟩ := okSL_cons_inv hps
  obtain ⟨qv, _, rfl, p2, e5⟩ := okSL_cons_inv e4
  cases okSL_nil_inv e5
  obtain ⟨z1, us, um, ule, uok⟩ := us_of p1
  obtain ⟨z2, vs, vm, vle, vok⟩ := us_of p2
  rw [maxLen_eq] at hmax um vm
  refine ⟨[.agg [.int .i64 st, .int .i64 lo, .int .i64 hi, .int .i64 il, .int .i64 ih], .vs false z l.length 2 (fun k => enc2 (l.getD k default)), .agg [.vs false z1 us.length 1 (fun k => encU (us.getD k default)), .vs false z2 vs.length 1 (fun k => encU (vs.getD k default))]], ⟨leXL_le _ _ (leXL_self _) (by simp only [bndL_cons, bndL_nil, bnd_vs, bnd_int, and_self]), leX_le _ _ hle trivial, leXL_le _ _ ⟨ule, vle, trivial⟩ (by simp only [bndL_cons, bndL_nil, bnd_vs, bnd_int, and_self]), trivial⟩, ?_⟩
  dsimp only [v5, L2_ct9, trueC, L2_ct10, runC, L2_ct12, givC, L2_ct14, failsC, demC, ivsR, enc2, encU, r_end, r_end1, r_nil, r_op, r_opg, r_runOp, r_op0, r_yld0, r_yld1, r_y, r_rbeg, r_rend, r_rend1, r_rfrm, r_rfrm1, r_range, r_rangeK, r_rangeE, r_draw, r_dnil, r_dop, r_dopg, r_dplq, r_dplh, r_dq, r_dq0, r_dcl1, r_dcl0, r_dct1, r_dct0, r_dgd, r_dgq1, r_dgq0, r_dctG, r_op1, r_eff, r_eff0, r_call, r_call0, r_inl, r_g, r_gq, r_gc, r_effg, r_effg0, r_callg, r_callg0, r_fin, r_pre, r_imp, r_all, r_ex, r_fing, r_preg, r_exg, r_inBlock, r_inLoop, r_frame, r_frame1, r_skip, r_region, r_seq, r_cond, r_cond1, r_block, r_exit, r_exit1, r_exit2, r_ret, r_loop, s_args0, s_args1, s_xt, s_xc, padL, blankL, callee, callArgs, eff, ctOf, getL, setL, S.put, S.upd, unopts, unopt, unoptsO, unoptsB, lazyO, guardOf, gbool, eMov, eNot, eNeg, eConv, eExt, eLenArr, eLen, eLenStr, eEqb, eEqv, allEq, eNil, negIf, eBool2, eCmp, eAri, ari, eBit, eDiv, eSh, eMinMax, foldMin, foldMax, kEq, pure1, cmpB, VO.quiet, resVals, resVal, tupled, popRet, popTo, cond, Option.bind, Option.map, eNew, eBox, asCells, lenH, snocH, eFieldAddr, eField, eLoad, cellsAt, getH, setH, dropL, takeL, mkAgg, lenL, lenS, shift, shiftL, shiftH, viewN, viewL, view, andT, junks, List.append_nil, Nat.beq, eIdxAddr, eIdxArr, eIndex, eStore, storeAt, spliceL, ones, one, eSlice, eSliceArr, bounds, subLo, addLo, eMake, eAppend, readS, repL, buildCells, chunk, purgeL, purgeLL, purgeH, purge, refs, refsL, List.cons_append, List.nil_append, wrOps, wrAl, wrDops, wrC, junkAt, putAll, putHs, headOf, headK, keepG, List.append_eq, headX, chkP, apartP, apartB, blk, strip, runAl, yld, putPs, lenN, findR, notRound, jumpK, jumpPT, jcode, List.map_cons, List.map_nil, ite_self, reduceIte]
  simp only [true_and, and_true, imp_self, implies_true, decide_eq_true_eq, decide_eq_false_iff_not, Nat.reduceAdd, Nat.reduceLeDiff, Bool.not_not, reduceCtorEq, false_imp_iff, Bool.not_eq_true', Bool.not_eq_false', Bool.false_eq_true, and_self, forall_const, ne_eq, not_false_eq_true, Nat.reduceEqDiff]
  have hk' : k (.bool true) [] := hk
  refine ⟨fun _ => ans_bool hk, fun hlt => ⟨l, ⟨lsP_self, hmax⟩, by decide, by decide, l, ⟨lsP_self, hmax⟩, by decide, by decide, l, ⟨lsP_self, hmax⟩, by decide, by decide, by decide, fun he => ans_bool ?_, fun he => ?_⟩⟩
  · rw [run_err] at he
    have r1 : runF ⟨st, lo, hi, il, ih⟩ l = ([], askF ⟨st, lo, hi, il, ih⟩ l) := by rw [runF, if_pos he]
    have r2 : givF ⟨st, lo, hi, il, ih⟩ l = ([], askF ⟨st, lo, hi, il, ih⟩ l) := by rw [givF, if_pos he]
    rw [r1, r2, fails_err]
    simpa using hk'
  · rw [run_err] at he
    simp only [run_is he, giv_is he, fails_is he]
    obtain ⟨hb, h1000, hd⟩ := ask_ok he
    have hne := fit_ne (fit_il hb)
    have hbo := bel_ok hb
    have r1 := fail_rng (b := ⟨st, lo, hi, il, ih⟩) (n := il) (w := true) (l := l) (v := st)
    have r2 := fail_rng (b := ⟨st, lo, hi, il, ih⟩) (n := ih) (w := false) (l := l) (v := st)
    have r3 := fun h0 => may_must he h0
    simp only at r3
    refine ⟨fun a c => by rw [a, decide_eq_true c]; rfl, fun a c => by rw [a, c]; rfl, fun a c => by rw [a, decide_eq_true c]; rfl, fun hc => ?_, fun _ => ?_⟩
    · exfalso
      simp only [run_len, giv_len, Bool.or_eq_true, Bool.and_eq_true, Bool.not_eq_true', decide_eq_true_eq, decide_eq_false_iff_not, decide_true, Bool.false_eq_true, Bool.true_eq_false, not_true_eq_false, false_or, or_false, or_self] at hc
      omega
    · refine Loop.keep [1, 1, 1, 1, 1, 1, 0, 1, 0, 0] (Nat × Bool) (fun x => [(14, .int .i64 (crsV ⟨st, lo, hi, il, ih⟩ (fun i => memF (il, ih) (pickF us i)) (fun i => memF (l.getD i default) (pickF vs i)) x.1)), (15, .bool x.2), (16, .int .i64 x.1)]) (fun _ => []) [] (fun x => x.1 ≤ l.length) (fun x => l.length - x.1) ?_ ?_
      · refine ⟨(0, false), Nat.zero_le _, ?_⟩
        dsimp only [crsV, r_end, r_end1, r_nil, r_op, r_opg, r_runOp, r_op0, r_yld0, r_yld1, r_y, r_rbeg, r_rend, r_rend1, r_rfrm, r_rfrm1, r_range, r_rangeK, r_rangeE, r_draw, r_dnil, r_dop, r_dopg, r_dplq, r_dplh, r_dq, r_dq0, r_dcl1, r_dcl0, r_dct1, r_dct0, r_dgd, r_dgq1, r_dgq0, r_dctG, r_op1, r_eff, r_eff0, r_call, r_call0, r_inl, r_g, r_gq, r_gc, r_effg, r_effg0, r_callg, r_callg0, r_fin, r_pre, r_imp, r_all, r_ex, r_fing, r_preg, r_exg, r_inBlock, r_inLoop, r_frame, r_frame1, r_skip, r_region, r_seq, r_cond, r_cond1, r_block, r_exit, r_exit1, r_exit2, r_ret, r_loop, s_args0, s_args1, s_xt, s_xc, padL, blankL, callee, callArgs, eff, ctOf, getL, setL, S.put, S.upd, unopts, unopt, unoptsO, unoptsB, lazyO, guardOf, gbool, eMov, eNot, eNeg, eConv, eExt, eLenArr, eLen, eLenStr, eEqb, eEqv, allEq, eNil, negIf, eBool2, eCmp, eAri, ari, eBit, eDiv, eSh, eMinMax, foldMin, foldMax, kEq, pure1, cmpB, VO.quiet, resVals, resVal, tupled, popRet, popTo, cond, Option.bind, Option.map, eNew, eBox, asCells, lenH, snocH, eFieldAddr, eField, eLoad, cellsAt, getH, setH, dropL, takeL, mkAgg, lenL, lenS, shift, shiftL, shiftH, viewN, viewL, view, andT, junks, List.append_nil, Nat.beq, eIdxAddr, eIdxArr, eIndex, eStore, storeAt, spliceL, ones, one, eSlice, eSliceArr, bounds, subLo, addLo, eMake, eAppend, readS, repL, buildCells, chunk, purgeL, purgeLL, purgeH, purge, refs, refsL, List.cons_append, List.nil_append, wrOps, wrAl, wrDops, wrC, junkAt, putAll, putHs, headOf, headK, keepG, List.append_eq, headX, chkP, apartP, apartB, blk, strip, runAl, yld, putPs, lenN, findR, notRound, jumpK, jumpPT, jcode, List.map_cons, List.map_nil, ite_self, reduceIte]
        simp only [leS_mk, leL_cons, leL_nil, le_junk, le_int, le_bool, le_nil, leLL_nil, leLL_cons, leH_cons, leH_nil, leH1_box, leH1_own, leH1_gone, le_vs, le_agg, le_tup, le_ptr, le_own, le_xp, le_fn, le_opt, le_val, le_elem, le_nil_own, le_nil_vs, leH_ghost, leL_chunk, leXL_id, bnd_int, bnd_bool, bnd_val, bnd_nil, bnd_junk, bnd_vs, bnd_xp, bnd_agg, bnd_tup, bnd_ptr, bnd_own, bnd_elem, bnd_fn, bnd_iface, bnd_opt, bndL_nil, bndL_cons, lenH_cons, lenH_nil, imp_self, implies_true, true_and, and_true] <;> simp
      · rintro ⟨i, fl⟩ hi'
        dsimp only [L2_ct9, trueC, L2_ct23, tickC, L2_ct24, memC, L2_ct25, pickC, enc2, encU, Int.toNat_natCast, r_end, r_end1, r_nil, r_op, r_opg, r_runOp, r_op0, r_yld0, r_yld1, r_y, r_rbeg, r_rend, r_rend1, r_rfrm, r_rfrm1, r_range, r_rangeK, r_rangeE, r_draw, r_dnil, r_dop, r_dopg, r_dplq, r_dplh, r_dq, r_dq0, r_dcl1, r_dcl0, r_dct1, r_dct0, r_dgd, r_dgq1, r_dgq0, r_dctG, r_op1, r_eff, r_eff0, r_call, r_call0, r_inl, r_g, r_gq, r_gc, r_effg, r_effg0, r_callg, r_callg0, r_fin, r_pre, r_imp, r_all, r_ex, r_fing, r_preg, r_exg, r_inBlock, r_inLoop, r_frame, r_frame1, r_skip, r_region, r_seq, r_cond, r_cond1, r_block, r_exit, r_exit1, r_exit2, r_ret, r_loop, s_args0, s_args1, s_xt, s_xc, padL, blankL, callee, callArgs, eff, ctOf, getL, setL, S.put, S.upd, unopts, unopt, unoptsO, unoptsB, lazyO, guardOf, gbool, eMov, eNot, eNeg, eConv, eExt, eLenArr, eLen, eLenStr, eEqb, eEqv, allEq, eNil, negIf, eBool2, eCmp, eAri, ari, eBit, eDiv, eSh, eMinMax, foldMin, foldMax, kEq, pure1, cmpB, VO.quiet, resVals, resVal, tupled, popRet, popTo, cond, Option.bind, Option.map, eNew, eBox, asCells, lenH, snocH, eFieldAddr, eField, eLoad, cellsAt, getH, setH, dropL, takeL, mkAgg, lenL, lenS, shift, shiftL, shiftH, viewN, viewL, view, andT, junks, List.append_nil, Nat.beq, eIdxAddr, eIdxArr, eIndex, eStore, storeAt, spliceL, ones, one, eSlice, eSliceArr, bounds, subLo, addLo, eMake, eAppend, readS, repL, buildCells, chunk, purgeL, purgeLL, purgeH, purge, refs, refsL, List.cons_append, List.nil_append, wrOps, wrAl, wrDops, wrC, junkAt, putAll, putHs, headOf, headK, keepG, List.append_eq, headX, chkP, apartP, apartB, blk, strip, runAl, yld, putPs, lenN, findR, notRound, jumpK, jumpPT, jcode, List.map_cons, List.map_nil, ite_self, reduceIte]
        simp only [true_and, and_true, imp_self, implies_true, decide_eq_true_eq, decide_eq_false_iff_not, Nat.reduceAdd, Nat.reduceLeDiff, Bool.not_not, reduceCtorEq, false_imp_iff, Bool.not_eq_true', Bool.not_eq_false', Bool.false_eq_true, and_self, forall_const, ne_eq, not_false_eq_true, Nat.reduceEqDiff]
        simp only at hi'
        refine ⟨fun hlt => ?_, fun hge => ans_bool hk'⟩
        have hil : i < l.length := by omega
        have hns : ∀ i, i < l.length → il ≤ memF (il, ih) (pickF us i) ∧ memF (il, ih) (pickF us i) ≤ ih := fun i _ => mem_ok (a := (il, ih)) hbo.2.2.2.2.2.1 hbo.2.2.2.2.2.2.1 (by have := hbo.2.2.2.2.2.2.2.1; simp only at this ⊢; omega) (pick_ok uok)
        have hds : ∀ i, i < l.length → (l.getD i default).1 ≤ memF (l.getD i default) (pickF vs i) ∧ memF (l.getD i default) (pickF vs i) ≤ (l.getD i default).2 := fun i hi => mem_ok (hd i hi).1 (hd i hi).2.1 (hd i hi).2.2 (pick_ok vok)
        obtain ⟨f, ⟨q1, q2⟩, ⟨q3, q4⟩, q5, ⟨q6, q7, q8⟩, ⟨q9, q10⟩, q11⟩ := inside (b := ⟨st, lo, hi, il, ih⟩) (ns := fun i => memF (il, ih) (pickF us i)) (ds := fun i => memF (l.getD i default) (pickF vs i)) he hns hds hil
        have T := tick_F f q3 q4 q1 q2
        have q0 : crsV ⟨st, lo, hi, il, ih⟩ (fun i => memF (il, ih) (pickF us i)) (fun i => memF (l.getD i default) (pickF vs i)) (i + 1) = max (w6 (hasF ⟨st, lo, hi, il, ih⟩ (memF (il, ih) (pickF us i)) (crsV ⟨st, lo, hi, il, ih⟩ (fun i => memF (il, ih) (pickF us i)) (fun i => memF (l.getD i default) (pickF vs i)) i) - memF (l.getD i default) (pickF vs i))) 0 := rfl
        rw [← q0] at T
        have hs := w_succ (i := i) (n := l.length) (by omega) (by omega)
        refine ⟨⟨by omega, hlt⟩, us, i, ⟨lsP_self, rfl, um⟩, pick_ok uok, vs, i, ⟨lsP_self, rfl, vm⟩, pick_ok vok, hne, by decide, by decide, by decide, ?_⟩
        simp only [T, run_get hil, run_len, giv_len]
        try simp only at q5 q6 q7 q8 q9 q10 q11
        generalize hc0 : crsV ⟨st, lo, hi, il, ih⟩ (fun i => memF (il, ih) (pickF us i)) (fun i => memF (l.getD i default) (pickF vs i)) (i + 1) = c1 at *
        generalize hasF ⟨st, lo, hi, il, ih⟩ (memF (il, ih) (pickF us i)) (crsV ⟨st, lo, hi, il, ih⟩ (fun i => memF (il, ih) (pickF us i)) (fun i => memF (l.getD i default) (pickF vs i)) i) = H at *
        have ix : 0 ≤ (i : Int) ∧ (i : Int) < (l.length : Int) := ⟨by omega, hlt⟩
        refine ⟨fun a c => by rw [a, decide_eq_false c]; rfl, fun _ => ix, fun _ => ix, fun _ => ix, fun _ => ix, fun _ => ix, fun hc => ?_, fun _ => ⟨fun hc => ?_, fun _ => ⟨(i + 1, fl || decide (H < memF (l.getD i default) (pickF vs i))), by simp only; omega, by simp only; omega, ?_⟩⟩⟩
        · exfalso
          simp only [Bool.or_eq_true, Bool.and_eq_true, decide_eq_true_eq] at hc
          rcases hc with ((((⟨a1, a2⟩ | a1) | a1) | a1) | a1) | a1
          · have := q5 a1; omega
          · omega
          · omega
          · omega
          · omega
          · omega
        · exfalso
          simp only [Bool.and_eq_true, decide_eq_true_eq, Bool.not_eq_true', Bool.or_eq_false_iff, decide_eq_false_iff_not] at hc
          exact hc.2.2 (q11 hc.1.symm)
        · have hc1 : crsV ⟨st, lo, hi, il, ih⟩ (fun i => memF (il, ih) (pickF us i)) (fun i => memF (l.getD i default) (pickF vs i)) (i + 1) = c1 := hc0
          simp only [hc1, hs, Bool.or_self, leS_mk, leL_cons, leL_nil, le_junk, le_int, le_bool, le_nil, leLL_nil, leLL_cons, leH_cons, leH_nil, leH1_box, leH1_own, leH1_gone, le_vs, le_agg, le_tup, le_ptr, le_own, le_xp, le_fn, le_opt, le_val, le_elem, le_nil_own, le_nil_vs, leH_ghost, leL_chunk, leXL_id, bnd_int, bnd_bool, bnd_val, bnd_nil, bnd_junk, bnd_vs, bnd_xp, bnd_agg, bnd_tup, bnd_ptr, bnd_own, bnd_elem, bnd_fn, bnd_iface, bnd_opt, bndL_nil, bndL_cons, lenH_cons, lenH_nil, imp_self, implies_true, true_and, and_true] <;> simp
end Go.Proofs.Ytliipeebknljdaa
