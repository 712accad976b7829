/- Bellows: the law of joining, walked. -/
import Derived.Test.YtliipeebknljdaaW9
import Derived.Test.YtliipeebknljdaaS7
set_option linter.all false
namespace Go.Proofs.Ytliipeebknljdaa
open Go Go.Vx
set_option maxRecDepth 100000
set_option maxHeartbeats 4000000

def v8 : VF := { ntmps := 233, res := [.tmp 6], body :=
 (.seq (.region [⟨(some 3), none, .box, [.tm 0]⟩,
  ⟨(some 6), none, .mov, [.cn (.bool false)]⟩])
 (.seq (.seq (.region [⟨(some 25), none, .mov, [.tm 1]⟩,
  ⟨(some 26), none, .len, [.tm 25]⟩,
  ⟨(some 27), none, (.cmp .gtr), [.tm 26, .cn (.int .i64 200)]⟩])
 (.cond (.tm 27) (.seq (.region [⟨(some 28), none, (.call 9), []⟩,
  ⟨(some 6), none, .mov, [.tm 28]⟩])
 .ret)
  .skip))
 (.seq (.region [⟨(some 30), none, (.load true 5), [.tm 3]⟩,
  ⟨(some 31), none, .mov, [.tm 1]⟩,
  ⟨(some 32), none, (.call 10), [.tm 30, .tm 31]⟩,
  ⟨(some 29), none, .mov, [.tm 32]⟩,
  ⟨(some 33), none, (.ext 0), [.tm 29]⟩,
  ⟨(some 34), none, (.ext 1), [.tm 29]⟩,
  ⟨(some 7), none, .mov, [.tm 33]⟩,
  ⟨(some 8), none, .mov, [.tm 34]⟩])
 (.seq (.seq (.region [⟨(some 35), none, .mov, [.tm 8]⟩,
  ⟨(some 36), none, (.cmp .neq), [.tm 35, .cn (.int .i64 0)]⟩])
 (.cond (.tm 36) (.seq (.region [⟨(some 37), none, .mov, [.tm 7]⟩,
  ⟨(some 38), none, .len, [.tm 37]⟩,
  ⟨(some 39), none, (.cmp .eql), [.tm 38, .cn (.int .i64 0)]⟩,
  ⟨(some 40), none, .mov, [.tm 39]⟩,
  ⟨(some 41), (some (40, true)), (.call 9), []⟩,
  ⟨(some 42), none, .and, [.tm 40, .tm 41]⟩,
  ⟨(some 6), none, .mov, [.tm 42]⟩])
 .ret)
  .skip))
 (.seq (.seq (.region [⟨(some 43), none, .mov, [.tm 7]⟩,
  ⟨(some 44), none, .len, [.tm 43]⟩,
  ⟨(some 45), none, .mov, [.tm 1]⟩,
  ⟨(some 46), none, .len, [.tm 45]⟩,
  ⟨(some 47), none, (.cmp .neq), [.tm 44, .tm 46]⟩])
 (.cond (.tm 47) (.seq (.region [⟨(some 6), none, .mov, [.cn (.bool false)]⟩])
 .ret)
  .skip))
 (.seq (.region [⟨(some 48), none, .mov, [.tm 2]⟩,
  ⟨(some 49), none, (.conv .i64), [.tm 48]⟩,
  ⟨(some 50), none, .mov, [.tm 1]⟩,
  ⟨(some 51), none, .len, [.tm 50]⟩,
  ⟨(some 52), none, (.ari .add), [.tm 51, .cn (.int .i64 1)]⟩,
  ⟨(some 53), none, .rem, [.tm 49, .tm 52]⟩,
  ⟨(some 9), none, .mov, [.tm 53]⟩])
 (.seq (.seq (.region [⟨(some 54), none, .mov, [.tm 9]⟩,
  ⟨(some 55), none, (.cmp .gtr), [.tm 54, .cn (.int .i64 0)]⟩,
  ⟨(some 56), none, .mov, [.tm 55]⟩,
  ⟨(some 57), (some (56, true)), .mov, [.tm 9]⟩,
  ⟨(some 58), (some (56, true)), .mov, [.tm 1]⟩,
  ⟨(some 59), (some (56, true)), .len, [.tm 58]⟩,
  ⟨(some 60), (some (56, true)), (.cmp .lss), [.tm 57, .tm 59]⟩,
  ⟨(some 61), none, .and, [.tm 56, .tm 60]⟩])
 (.cond (.tm 61) (.seq (.draw [(10, [(.int .i64 0), (.int .i64 0), (.int .i64 0), (.int .i64 0), (.int .i64 0)]), (11, [(.int .i64 0), (.int .i64 0), (.int .i64 0), (.int .i64 0), (.int .i64 0)])] [⟨⟨(some 62), none, (.load true 5), [.tm 3]⟩, []⟩,
  ⟨⟨(some 63), none, (.load true 5), [.tm 3]⟩, []⟩,
  ⟨⟨none, none, (.store 5), [.tm 10, .tm 62]⟩, [.tm 3]⟩,
  ⟨⟨none, none, (.store 5), [.tm 11, .tm 63]⟩, []⟩])
 (.seq (.draw [] [⟨⟨(some 64), none, .mov, [.tm 7]⟩, []⟩,
  ⟨⟨(some 65), none, .mov, [.tm 9]⟩, []⟩,
  ⟨⟨(some 66), none, (.ari .sub), [.tm 65, .cn (.int .i64 1)]⟩, []⟩,
  ⟨⟨(some 67), none, (.idxAddr 2), [.tm 64, .tm 66]⟩, []⟩,
  ⟨⟨(some 68), none, (.fieldAddr 0), [.tm 67]⟩, []⟩,
  ⟨⟨(some 69), none, (.load false 1), [.tm 68]⟩, []⟩,
  ⟨⟨(some 70), none, .mov, [.tm 7]⟩, []⟩,
  ⟨⟨(some 71), none, .mov, [.tm 9]⟩, []⟩,
  ⟨⟨(some 72), none, (.ari .sub), [.tm 71, .cn (.int .i64 1)]⟩, []⟩,
  ⟨⟨(some 73), none, (.idxAddr 2), [.tm 70, .tm 72]⟩, []⟩,
  ⟨⟨(some 74), none, (.fieldAddr 1), [.tm 73]⟩, []⟩,
  ⟨⟨(some 75), none, (.load false 1), [.tm 74]⟩, []⟩,
  ⟨⟨(some 76), none, (.fieldAddr 0), [.tm 10]⟩, []⟩,
  ⟨⟨none, none, (.store 1), [.tm 76, .tm 69]⟩, [.tm 74]⟩,
  ⟨⟨(some 77), none, (.fieldAddr 0), [.tm 11]⟩, []⟩,
  ⟨⟨none, none, (.store 1), [.tm 77, .tm 75]⟩, []⟩])
 (.seq (.draw [] [⟨⟨(some 79), none, (.load true 5), [.tm 10]⟩, []⟩,
  ⟨⟨(some 80), none, .mov, [.tm 1]⟩, []⟩,
  ⟨⟨(some 81), none, .mov, [.tm 9]⟩, []⟩,
  ⟨⟨(some 82), none, (.slice 2 true false), [.tm 80, .tm 81]⟩, []⟩,
  ⟨⟨(some 83), none, (.call 10), [.tm 79, .tm 82]⟩, []⟩,
  ⟨⟨(some 78), none, .mov, [.tm 83]⟩, []⟩,
  ⟨⟨(some 84), none, (.ext 0), [.tm 78]⟩, []⟩,
  ⟨⟨(some 85), none, (.ext 1), [.tm 78]⟩, []⟩,
  ⟨⟨(some 12), none, .mov, [.tm 84]⟩, []⟩,
  ⟨⟨(some 13), none, .mov, [.tm 85]⟩, []⟩])
 (.seq (.draw [] [⟨⟨(some 87), none, (.load true 5), [.tm 11]⟩, []⟩,
  ⟨⟨(some 88), none, .mov, [.tm 1]⟩, []⟩,
  ⟨⟨(some 89), none, .mov, [.tm 9]⟩, []⟩,
  ⟨⟨(some 90), none, (.slice 2 true false), [.tm 88, .tm 89]⟩, []⟩,
  ⟨⟨(some 91), none, (.call 10), [.tm 87, .tm 90]⟩, []⟩,
  ⟨⟨(some 86), none, .mov, [.tm 91]⟩, []⟩,
  ⟨⟨(some 92), none, (.ext 0), [.tm 86]⟩, []⟩,
  ⟨⟨(some 93), none, (.ext 1), [.tm 86]⟩, []⟩,
  ⟨⟨(some 14), none, .mov, [.tm 92]⟩, []⟩,
  ⟨⟨(some 15), none, .mov, [.tm 93]⟩, []⟩])
 (.seq (.seq (.region [⟨(some 94), none, .mov, [.tm 13]⟩,
  ⟨(some 95), none, (.cmp .neq), [.tm 94, .cn (.int .i64 0)]⟩,
  ⟨(some 96), none, .mov, [.tm 95]⟩,
  ⟨(some 97), (some (96, false)), .mov, [.tm 15]⟩,
  ⟨(some 98), (some (96, false)), (.cmp .neq), [.tm 97, .cn (.int .i64 0)]⟩,
  ⟨(some 99), none, .or, [.tm 96, .tm 98]⟩,
  ⟨(some 100), none, .mov, [.tm 99]⟩,
  ⟨(some 101), (some (100, false)), .mov, [.tm 12]⟩,
  ⟨(some 102), (some (100, false)), .len, [.tm 101]⟩,
  ⟨(some 103), (some (100, false)), .mov, [.tm 1]⟩,
  ⟨(some 104), (some (100, false)), .len, [.tm 103]⟩,
  ⟨(some 105), (some (100, false)), .mov, [.tm 9]⟩,
  ⟨(some 106), (some (100, false)), (.ari .sub), [.tm 104, .tm 105]⟩,
  ⟨(some 107), (some (100, false)), (.cmp .neq), [.tm 102, .tm 106]⟩,
  ⟨(some 108), none, .or, [.tm 100, .tm 107]⟩,
  ⟨(some 109), none, .mov, [.tm 108]⟩,
  ⟨(some 110), (some (109, false)), .mov, [.tm 14]⟩,
  ⟨(some 111), (some (109, false)), .len, [.tm 110]⟩,
  ⟨(some 112), (some (109, false)), .mov, [.tm 12]⟩,
  ⟨(some 113), (some (109, false)), .len, [.tm 112]⟩,
  ⟨(some 114), (some (109, false)), (.cmp .neq), [.tm 111, .tm 113]⟩,
  ⟨(some 115), none, .or, [.tm 109, .tm 114]⟩])
 (.cond (.tm 115) (.seq (.region [⟨(some 6), none, .mov, [.cn (.bool false)]⟩])
 .ret)
  .skip))
 (.seq (.region [⟨(some 16), none, .mov, [.cn (.int .i64 0)]⟩])
 (.block 0 (.loop (.seq (.seq (.region [⟨(some 116), none, .mov, [.tm 16]⟩,
  ⟨(some 117), none, .mov, [.tm 12]⟩,
  ⟨(some 118), none, .len, [.tm 117]⟩,
  ⟨(some 119), none, (.cmp .lss), [.tm 116, .tm 118]⟩])
 (.cond (.tm 119) .skip
  (.exit 0)))
 (.seq (.block 1 (.seq (.draw [] [⟨⟨(some 122), none, .mov, [.tm 12]⟩, []⟩,
  ⟨⟨(some 123), none, .mov, [.tm 16]⟩, []⟩,
  ⟨⟨(some 124), none, (.idxAddr 2), [.tm 122, .tm 123]⟩, []⟩,
  ⟨⟨(some 125), none, (.fieldAddr 0), [.tm 124]⟩, []⟩,
  ⟨⟨(some 126), none, (.load false 1), [.tm 125]⟩, []⟩,
  ⟨⟨(some 127), none, .mov, [.tm 7]⟩, []⟩,
  ⟨⟨(some 128), none, .mov, [.tm 9]⟩, []⟩,
  ⟨⟨(some 129), none, .mov, [.tm 16]⟩, []⟩,
  ⟨⟨(some 130), none, (.ari .add), [.tm 128, .tm 129]⟩, []⟩,
  ⟨⟨(some 131), none, (.idxAddr 2), [.tm 127, .tm 130]⟩, []⟩,
  ⟨⟨(some 132), none, (.fieldAddr 0), [.tm 131]⟩, []⟩,
  ⟨⟨(some 133), none, (.load false 1), [.tm 132]⟩, []⟩,
  ⟨⟨(some 134), none, (.cmp .neq), [.tm 126, .tm 133]⟩, []⟩,
  ⟨⟨(some 135), none, .mov, [.tm 134]⟩, []⟩,
  ⟨⟨(some 136), (some (135, false)), .mov, [.tm 14]⟩, []⟩,
  ⟨⟨(some 137), (some (135, false)), .mov, [.tm 16]⟩, []⟩,
  ⟨⟨(some 138), (some (135, false)), (.idxAddr 2), [.tm 136, .tm 137]⟩, []⟩,
  ⟨⟨(some 139), (some (135, false)), (.fieldAddr 1), [.tm 138]⟩, []⟩,
  ⟨⟨(some 140), (some (135, false)), (.load false 1), [.tm 139]⟩, []⟩,
  ⟨⟨(some 141), (some (135, false)), .mov, [.tm 7]⟩, []⟩,
  ⟨⟨(some 142), (some (135, false)), .mov, [.tm 9]⟩, []⟩,
  ⟨⟨(some 143), (some (135, false)), .mov, [.tm 16]⟩, []⟩,
  ⟨⟨(some 144), (some (135, false)), (.ari .add), [.tm 142, .tm 143]⟩, []⟩,
  ⟨⟨(some 145), (some (135, false)), (.idxAddr 2), [.tm 141, .tm 144]⟩, []⟩,
  ⟨⟨(some 146), (some (135, false)), (.fieldAddr 1), [.tm 145]⟩, []⟩,
  ⟨⟨(some 147), (some (135, false)), (.load false 1), [.tm 146]⟩, []⟩,
  ⟨⟨(some 148), (some (135, false)), (.cmp .neq), [.tm 140, .tm 147]⟩, []⟩,
  ⟨⟨(some 149), none, .or, [.tm 135, .tm 148]⟩, []⟩])
 (.cond (.tm 149) (.seq (.region [⟨(some 6), none, .mov, [.cn (.bool false)]⟩])
 .ret)
  .skip)))
 (.region [⟨(some 120), none, .mov, [.tm 16]⟩,
  ⟨(some 121), none, (.ari .add), [.tm 120, .cn (.int .i64 1)]⟩,
  ⟨(some 16), none, .mov, [.tm 121]⟩])))))))))))
  .skip))
 (.seq (.seq (.region [⟨(some 150), none, .mov, [.tm 1]⟩,
  ⟨(some 151), none, .len, [.tm 150]⟩,
  ⟨(some 152), none, (.cmp .eql), [.tm 151, .cn (.int .i64 0)]⟩])
 (.cond (.tm 152) (.seq (.region [⟨(some 153), none, (.call 9), []⟩,
  ⟨(some 6), none, .mov, [.tm 153]⟩])
 .ret)
  .skip))
 (.seq (.draw [] [⟨⟨(some 155), none, (.load true 5), [.tm 3]⟩, []⟩,
  ⟨⟨(some 156), none, .mov, [.tm 1]⟩, []⟩,
  ⟨⟨(some 157), none, (.idxAddr 2), [.tm 156, .cn (.int .i64 0)]⟩, []⟩,
  ⟨⟨(some 158), none, (.fieldAddr 1), [.tm 157]⟩, []⟩,
  ⟨⟨(some 159), none, (.load false 1), [.tm 158]⟩, []⟩,
  ⟨⟨(some 160), none, (.call 19), [.tm 155, .tm 159]⟩, []⟩,
  ⟨⟨(some 154), none, .mov, [.tm 160]⟩, []⟩,
  ⟨⟨(some 161), none, (.ext 0), [.tm 154]⟩, []⟩,
  ⟨⟨(some 162), none, (.ext 1), [.tm 154]⟩, []⟩,
  ⟨⟨(some 163), none, (.ext 2), [.tm 154]⟩, []⟩,
  ⟨⟨(some 17), none, .mov, [.tm 161]⟩, []⟩,
  ⟨⟨(some 18), none, .mov, [.tm 162]⟩, []⟩,
  ⟨⟨(some 19), none, .mov, [.tm 163]⟩, []⟩])
 (.seq (.seq (.region [⟨(some 164), none, .mov, [.tm 19]⟩,
  ⟨(some 165), none, (.cmp .neq), [.tm 164, .cn (.int .i64 0)]⟩])
 (.cond (.tm 165) (.seq (.region [⟨(some 166), none, .mov, [.tm 19]⟩,
  ⟨(some 167), none, (.cmp .eql), [.tm 166, .cn (.int .i64 3)]⟩,
  ⟨(some 168), none, .mov, [.tm 167]⟩,
  ⟨(some 169), (some (168, true)), (.call 9), []⟩,
  ⟨(some 170), none, .and, [.tm 168, .tm 169]⟩,
  ⟨(some 6), none, .mov, [.tm 170]⟩])
 .ret)
  .skip))
 (.seq (.region [⟨(some 20), none, .mov, [.cn .nil]⟩])
 (.seq (.seq (.region [⟨(some 21), none, .mov, [.cn (.int .i64 0)]⟩])
 (.block 2 (.loop (.seq (.seq (.region [⟨(some 171), none, .mov, [.tm 21]⟩,
  ⟨(some 172), none, (.cmp .lss), [.tm 171, .cn (.int .i64 150)]⟩])
 (.cond (.tm 172) .skip
  (.exit 2)))
 (.seq (.block 3 (.draw [] [⟨⟨(some 175), none, .mov, [.tm 20]⟩, []⟩,
  ⟨⟨(some 176), none, .mov, [.tm 1]⟩, []⟩,
  ⟨⟨(some 177), none, (.idxAddr 2), [.tm 176, .cn (.int .i64 0)]⟩, []⟩,
  ⟨⟨(some 178), none, (.fieldAddr 1), [.tm 177]⟩, []⟩,
  ⟨⟨(some 179), none, (.load false 1), [.tm 178]⟩, []⟩,
  ⟨⟨(some 180), none, .mov, [.tm 1]⟩, []⟩,
  ⟨⟨(some 181), none, (.idxAddr 2), [.tm 180, .cn (.int .i64 0)]⟩, []⟩,
  ⟨⟨(some 182), none, (.fieldAddr 1), [.tm 181]⟩, []⟩,
  ⟨⟨(some 183), none, (.load false 1), [.tm 182]⟩, []⟩,
  ⟨⟨(some 184), none, (.call 26), [.tm 179, .tm 183]⟩, []⟩,
  ⟨⟨(some 185), none, (.buildSlice 2 1 [(.int .i64 0), (.int .i64 0)] [(0, 2)]), [.tm 184]⟩, []⟩,
  ⟨⟨(some 186), none, (.append 2 16 [(.int .i64 0), (.int .i64 0)]), [.tm 175, .tm 185]⟩, []⟩,
  ⟨⟨(some 20), none, .mov, [.tm 186]⟩, []⟩]))
 (.region [⟨(some 173), none, .mov, [.tm 21]⟩,
  ⟨(some 174), none, (.ari .add), [.tm 173, .cn (.int .i64 1)]⟩,
  ⟨(some 21), none, .mov, [.tm 174]⟩]))))))
 (.seq (.region [⟨(some 188), none, (.load true 5), [.tm 3]⟩,
  ⟨(some 189), none, .mov, [.tm 20]⟩,
  ⟨(some 190), none, (.call 14), [.tm 188, .tm 189]⟩,
  ⟨(some 187), none, .mov, [.tm 190]⟩,
  ⟨(some 191), none, (.ext 0), [.tm 187]⟩,
  ⟨(some 192), none, (.ext 1), [.tm 187]⟩,
  ⟨(some 193), none, (.ext 2), [.tm 187]⟩,
  ⟨(some 22), none, .mov, [.tm 191]⟩,
  ⟨(some 23), none, .mov, [.tm 192]⟩,
  ⟨(some 24), none, .mov, [.tm 193]⟩])
 (.seq (.region [⟨(some 194), none, .mov, [.tm 24]⟩,
  ⟨(some 195), none, (.cmp .eql), [.tm 194, .cn (.int .i64 0)]⟩,
  ⟨(some 196), none, .mov, [.tm 195]⟩,
  ⟨(some 197), (some (196, true)), .mov, [.tm 22]⟩,
  ⟨(some 198), (some (196, true)), .mov, [.tm 17]⟩,
  ⟨(some 199), (some (196, true)), (.cmp .eql), [.tm 197, .tm 198]⟩,
  ⟨(some 200), (some (196, true)), .mov, [.tm 199]⟩,
  ⟨(some 201), (some (200, false)), .mov, [.tm 22]⟩,
  ⟨(some 202), (some (200, false)), (.cmp .eql), [.tm 201, .cn (.int .i64 (-1))]⟩,
  ⟨(some 203), (some (200, false)), .mov, [.tm 202]⟩,
  ⟨(some 204), (some (203, true)), .mov, [.tm 17]⟩,
  ⟨(some 205), (some (203, true)), (.cmp .lss), [.tm 204, .cn (.int .i64 0)]⟩,
  ⟨(some 206), (some (203, true)), .mov, [.tm 205]⟩,
  ⟨(some 207), (some (206, false)), .mov, [.tm 17]⟩,
  ⟨(some 208), (some (206, false)), (.cmp .geq), [.tm 207, .cn (.int .i64 150)]⟩,
  ⟨(some 209), (some (203, true)), .or, [.tm 206, .tm 208]⟩,
  ⟨(some 210), (some (200, false)), .and, [.tm 203, .tm 209]⟩,
  ⟨(some 211), (some (196, true)), .or, [.tm 200, .tm 210]⟩,
  ⟨(some 212), none, .and, [.tm 196, .tm 211]⟩,
  ⟨(some 213), none, .mov, [.tm 212]⟩,
  ⟨(some 214), (some (213, true)), .mov, [.tm 23]⟩,
  ⟨(some 215), (some (213, true)), .mov, [.tm 18]⟩,
  ⟨(some 216), (some (213, true)), (.cmp .eql), [.tm 214, .tm 215]⟩,
  ⟨(some 217), (some (213, true)), .mov, [.tm 216]⟩,
  ⟨(some 218), (some (217, false)), .mov, [.tm 23]⟩,
  ⟨(some 219), (some (217, false)), (.cmp .eql), [.tm 218, .cn (.int .i64 (-1))]⟩,
  ⟨(some 220), (some (217, false)), .mov, [.tm 219]⟩,
  ⟨(some 221), (some (220, true)), .mov, [.tm 18]⟩,
  ⟨(some 222), (some (220, true)), (.cmp .lss), [.tm 221, .cn (.int .i64 0)]⟩,
  ⟨(some 223), (some (220, true)), .mov, [.tm 222]⟩,
  ⟨(some 224), (some (223, false)), .mov, [.tm 18]⟩,
  ⟨(some 225), (some (223, false)), (.cmp .geq), [.tm 224, .cn (.int .i64 150)]⟩,
  ⟨(some 226), (some (220, true)), .or, [.tm 223, .tm 225]⟩,
  ⟨(some 227), (some (217, false)), .and, [.tm 220, .tm 226]⟩,
  ⟨(some 228), (some (213, true)), .or, [.tm 217, .tm 227]⟩,
  ⟨(some 229), none, .and, [.tm 213, .tm 228]⟩,
  ⟨(some 230), none, .mov, [.tm 229]⟩,
  ⟨(some 231), (some (230, true)), (.call 9), []⟩,
  ⟨(some 232), none, .and, [.tm 230, .tm 231]⟩,
  ⟨(some 6), none, .mov, [.tm 232]⟩])
 .ret)))))))))))))) }
theorem v8_is : vfunc Try.prog Try.f8 = some v8 := by kernel_rfl


def lawJ : List PSh := [⟨true, shB⟩, ⟨false, [.slice bare2]⟩, ⟨false, [.int .u8]⟩]

theorem slice_lsP {l : List Iv} {m : Nat} : lsP 2 enc2 (subLo l.length m) 2 (fun k => enc2 (l.getD (addLo m k) default)) (l.drop m) := by
  have e1 : subLo l.length m = l.length - m := by cases m <;> rfl
  have e2 : ∀ k, addLo m k = m + k := fun k => by cases m <;> simp [addLo]
  refine ⟨rfl, by rw [e1, List.length_drop], fun k hk => ?_⟩
  show leXL (enc2 (l.getD (addLo m k) default)) _
  rw [e2, getD_drop]; exact leXL_self _

theorem lawJoins : (lawC lawJ).ok Try.prog 8 := by
  refine contract Try.func8 v8_is L1_ok 2000 (lawC lawJ) fun args k h => ?_
  obtain ⟨ha, hk⟩ := h
  obtain ⟨_, _, rfl, h1, e1⟩ := okPL_cons_inv ha
  obtain ⟨cs, rfl, hcs⟩ := okP_agg_inv h1
  obtain ⟨v, _, rfl, h2, e2⟩ := okPL_cons_inv e1
  obtain ⟨_, _, rfl, h3, e3⟩ := okPL_cons_inv e2
  obtain ⟨cut, rfl, hcut⟩ := okP_one_inv h3
  cases okPL_nil_inv e3
  obtain ⟨⟨st, lo, hi, il, ih⟩, rfl⟩ := bel_of hcs
  obtain ⟨z, l, hmax, hle⟩ := ivs_of (okP_one_inv h2)
  rw [maxLen_eq] at hmax
  simp only [Lit.wf, Bool.and_eq_true, decide_eq_true_eq] at hcut
  have hcut' : 0 ≤ cut ∧ cut ≤ 255 := hcut
  refine ⟨[.agg [.int .i64 st, .int .i64 lo, .int .i64 hi, .int .i64 il, .int .i64 ih], .vs false z l.length 2 (fun k => enc2 (l.getD k default)), .int .u8 cut], ⟨leXL_le _ _ (leXL_self _) (by simp only [bndL_cons, bndL_nil, bnd_vs, bnd_int, and_self]), leX_le _ _ hle trivial, ⟨rfl, rfl⟩, trivial⟩, ?_⟩
  dsimp only [v8, L1_ct9, trueC, L1_ct10, runC, L1_ct14, failsC, L1_ct19, lastsC, d1C, demC, ivsR, enc2, r_end, r_end1, r_nil, r_op, r_opg, r_runOp, r_op0, r_yld0, r_yld1, r_y, r_rbeg, r_rend, r_rend1, r_rfrm, r_rfrm1, r_range, r_rangeK, r_rangeE, r_draw, r_dnil, r_dop, r_dopg, r_dplq, r_dplh, r_dq, r_dq0, r_dcl1, r_dcl0, r_dct1, r_dct0, r_dgd, r_dgq1, r_dgq0, r_dctG, r_op1, r_eff, r_eff0, r_call, r_call0, r_inl, r_g, r_gq, r_gc, r_effg, r_effg0, r_callg, r_callg0, r_fin, r_pre, r_imp, r_all, r_ex, r_fing, r_preg, r_exg, r_inBlock, r_inLoop, r_frame, r_frame1, r_skip, r_region, r_seq, r_cond, r_cond1, r_block, r_exit, r_exit1, r_exit2, r_ret, r_loop, s_args0, s_args1, s_xt, s_xc, padL, blankL, callee, callArgs, eff, ctOf, getL, setL, S.put, S.upd, unopts, unopt, unoptsO, unoptsB, lazyO, guardOf, gbool, eMov, eNot, eNeg, eConv, eExt, eLenArr, eLen, eLenStr, eEqb, eEqv, allEq, eNil, negIf, eBool2, eCmp, eAri, ari, eBit, eDiv, eSh, eMinMax, foldMin, foldMax, kEq, pure1, cmpB, VO.quiet, resVals, resVal, tupled, popRet, popTo, cond, Option.bind, Option.map, eNew, eBox, asCells, lenH, snocH, eFieldAddr, eField, eLoad, cellsAt, getH, setH, dropL, takeL, mkAgg, lenL, lenS, shift, shiftL, shiftH, viewN, viewL, view, andT, junks, List.append_nil, Nat.beq, eIdxAddr, eIdxArr, eIndex, eStore, storeAt, spliceL, ones, one, eSlice, eSliceArr, bounds, subLo, addLo, eMake, eAppend, readS, repL, buildCells, chunk, purgeL, purgeLL, purgeH, purge, refs, refsL, List.cons_append, List.nil_append, wrOps, wrAl, wrDops, wrC, junkAt, putAll, putHs, headOf, headK, keepG, List.append_eq, headX, chkP, apartP, apartB, blk, strip, runAl, yld, putPs, lenN, findR, notRound, jumpK, jumpPT, jcode, List.map_cons, List.map_nil, ite_self, reduceIte]
  simp only [true_and, and_true, imp_self, implies_true, decide_eq_true_eq, decide_eq_false_iff_not, Nat.reduceAdd, Nat.reduceLeDiff, Bool.not_not, reduceCtorEq, false_imp_iff, Bool.not_eq_true', Bool.not_eq_false', Bool.false_eq_true, and_self, forall_const, ne_eq, not_false_eq_true, Nat.reduceEqDiff]
  have hk' : k (.bool true) [] := hk
  refine ⟨fun _ => ans_bool hk, fun hlt => ⟨l, ⟨lsP_self, hmax⟩, by decide, by decide, fun he => ans_bool ?_, fun he => ?_⟩⟩
  · rw [run_err] at he
    have r1 : runF ⟨st, lo, hi, il, ih⟩ l = ([], askF ⟨st, lo, hi, il, ih⟩ l) := by rw [runF, if_pos he]
    rw [r1]
    simpa using hk'
  · rw [run_err] at he
    simp only [run_is he]
    obtain ⟨hb, h1000, hd⟩ := ask_ok he
    have hne := fit_ne (fit_il hb)
    have hbo := bel_ok hb
    obtain ⟨m, hm, hml⟩ : ∃ m : Nat, (IntKind.i64.wrap cut).tmod (IntKind.i64.wrap ((l.length : Int) + 1)) = (m : Int) ∧ m ≤ l.length := by
      rw [w6_raw (x := cut) (by omega) (by omega), w6_raw (x := (l.length : Int) + 1) (by omega) (by omega), Int.tmod_eq_emod_of_nonneg (by omega)]
      have e1 := Int.emod_nonneg cut (by omega : (l.length : Int) + 1 ≠ 0)
      have e2 := Int.emod_lt_of_pos cut (by omega : 0 < (l.length : Int) + 1)
      exact ⟨(cut % ((l.length : Int) + 1)).toNat, by omega, by omega⟩
    simp only [hm, run_len]
    refine ⟨fun h => absurd trivial h, fun _ => ⟨?_, fun hc => ?_, fun hc => ?_⟩⟩
    · rw [w6_raw (by omega) (by omega)]; omega
    · rw [Bool.and_eq_true, decide_eq_true_eq, decide_eq_true_eq] at hc
      obtain ⟨j1, j2⟩ := join_law he hml true
      obtain ⟨j3, j4⟩ := join_law he hml false
      have e1 : IntKind.i64.wrap ((m : Int) - 1) = ((m - 1 : Nat) : Int) := by rw [w6_raw (by omega) (by omega)]; omega
      have e2 := run_get (b := ⟨st, lo, hi, il, ih⟩) (l := l) (i := m - 1) (by omega)
      rw [show m - 1 + 1 = m by omega] at e2
      have e3 : IntKind.i64.wrap ((l.length : Int) - (m : Int)) = ((l.drop m).length : Int) := by rw [List.length_drop, w6_raw (by omega) (by omega)]; omega
      simp only [e1, Int.toNat_natCast, e2, e3]
      simp only [inOf, if_true, if_false, Bool.false_eq_true] at j1 j2 j3 j4
      refine ⟨⟨by omega, by omega⟩, ⟨by omega, by omega⟩, ⟨by omega, by omega⟩, l.drop m, ⟨slice_lsP, by rw [List.length_drop]; omega⟩, by decide, by decide, ⟨by omega, by omega⟩, l.drop m, ⟨slice_lsP, by rw [List.length_drop]; omega⟩, by decide, by decide, ?_⟩
      simp only [run_is j1, run_is j3, run_len]
      refine ⟨fun h => absurd h (by simp), fun _ => ?_⟩
      have hdd := fun h0 : 0 < l.length => hd 0 h0
      have hdl := List.length_drop (i := m) (l := l)
      refine Loop.keep [1, 1, 3, 1, 2, 1, 1] Nat (fun i => [(16, .int .i64 i)]) (fun _ => []) [] (fun i => i ≤ (l.drop m).length) (fun i => (l.drop m).length - i) ?_ ?_
      · refine ⟨0, Nat.zero_le _, ?_⟩
        dsimp only [r_end, r_end1, r_nil, r_op, r_opg, r_runOp, r_op0, r_yld0, r_yld1, r_y, r_rbeg, r_rend, r_rend1, r_rfrm, r_rfrm1, r_range, r_rangeK, r_rangeE, r_draw, r_dnil, r_dop, r_dopg, r_dplq, r_dplh, r_dq, r_dq0, r_dcl1, r_dcl0, r_dct1, r_dct0, r_dgd, r_dgq1, r_dgq0, r_dctG, r_op1, r_eff, r_eff0, r_call, r_call0, r_inl, r_g, r_gq, r_gc, r_effg, r_effg0, r_callg, r_callg0, r_fin, r_pre, r_imp, r_all, r_ex, r_fing, r_preg, r_exg, r_inBlock, r_inLoop, r_frame, r_frame1, r_skip, r_region, r_seq, r_cond, r_cond1, r_block, r_exit, r_exit1, r_exit2, r_ret, r_loop, s_args0, s_args1, s_xt, s_xc, padL, blankL, callee, callArgs, eff, ctOf, getL, setL, S.put, S.upd, unopts, unopt, unoptsO, unoptsB, lazyO, guardOf, gbool, eMov, eNot, eNeg, eConv, eExt, eLenArr, eLen, eLenStr, eEqb, eEqv, allEq, eNil, negIf, eBool2, eCmp, eAri, ari, eBit, eDiv, eSh, eMinMax, foldMin, foldMax, kEq, pure1, cmpB, VO.quiet, resVals, resVal, tupled, popRet, popTo, cond, Option.bind, Option.map, eNew, eBox, asCells, lenH, snocH, eFieldAddr, eField, eLoad, cellsAt, getH, setH, dropL, takeL, mkAgg, lenL, lenS, shift, shiftL, shiftH, viewN, viewL, view, andT, junks, List.append_nil, Nat.beq, eIdxAddr, eIdxArr, eIndex, eStore, storeAt, spliceL, ones, one, eSlice, eSliceArr, bounds, subLo, addLo, eMake, eAppend, readS, repL, buildCells, chunk, purgeL, purgeLL, purgeH, purge, refs, refsL, List.cons_append, List.nil_append, wrOps, wrAl, wrDops, wrC, junkAt, putAll, putHs, headOf, headK, keepG, List.append_eq, headX, chkP, apartP, apartB, blk, strip, runAl, yld, putPs, lenN, findR, notRound, jumpK, jumpPT, jcode, List.map_cons, List.map_nil, ite_self, reduceIte]
        simp only [leS_mk, leL_cons, leL_nil, le_junk, le_int, le_bool, le_nil, leLL_nil, leLL_cons, leH_cons, leH_nil, leH1_box, leH1_own, leH1_gone, le_vs, le_agg, le_tup, le_ptr, le_own, le_xp, le_fn, le_opt, le_val, le_elem, le_nil_own, le_nil_vs, leH_ghost, leL_chunk, leXL_id, bnd_int, bnd_bool, bnd_val, bnd_nil, bnd_junk, bnd_vs, bnd_xp, bnd_agg, bnd_tup, bnd_ptr, bnd_own, bnd_elem, bnd_fn, bnd_iface, bnd_opt, bndL_nil, bndL_cons, lenH_cons, lenH_nil, imp_self, implies_true, true_and, and_true] <;> simp
      · intro i hi'
        dsimp only [L1_ct9, trueC, L1_ct14, failsC, demC, L1_ct19, lastsC, d1C, enc2, Int.toNat_natCast, r_end, r_end1, r_nil, r_op, r_opg, r_runOp, r_op0, r_yld0, r_yld1, r_y, r_rbeg, r_rend, r_rend1, r_rfrm, r_rfrm1, r_range, r_rangeK, r_rangeE, r_draw, r_dnil, r_dop, r_dopg, r_dplq, r_dplh, r_dq, r_dq0, r_dcl1, r_dcl0, r_dct1, r_dct0, r_dgd, r_dgq1, r_dgq0, r_dctG, r_op1, r_eff, r_eff0, r_call, r_call0, r_inl, r_g, r_gq, r_gc, r_effg, r_effg0, r_callg, r_callg0, r_fin, r_pre, r_imp, r_all, r_ex, r_fing, r_preg, r_exg, r_inBlock, r_inLoop, r_frame, r_frame1, r_skip, r_region, r_seq, r_cond, r_cond1, r_block, r_exit, r_exit1, r_exit2, r_ret, r_loop, s_args0, s_args1, s_xt, s_xc, padL, blankL, callee, callArgs, eff, ctOf, getL, setL, S.put, S.upd, unopts, unopt, unoptsO, unoptsB, lazyO, guardOf, gbool, eMov, eNot, eNeg, eConv, eExt, eLenArr, eLen, eLenStr, eEqb, eEqv, allEq, eNil, negIf, eBool2, eCmp, eAri, ari, eBit, eDiv, eSh, eMinMax, foldMin, foldMax, kEq, pure1, cmpB, VO.quiet, resVals, resVal, tupled, popRet, popTo, cond, Option.bind, Option.map, eNew, eBox, asCells, lenH, snocH, eFieldAddr, eField, eLoad, cellsAt, getH, setH, dropL, takeL, mkAgg, lenL, lenS, shift, shiftL, shiftH, viewN, viewL, view, andT, junks, List.append_nil, Nat.beq, eIdxAddr, eIdxArr, eIndex, eStore, storeAt, spliceL, ones, one, eSlice, eSliceArr, bounds, subLo, addLo, eMake, eAppend, readS, repL, buildCells, chunk, purgeL, purgeLL, purgeH, purge, refs, refsL, List.cons_append, List.nil_append, wrOps, wrAl, wrDops, wrC, junkAt, putAll, putHs, headOf, headK, keepG, List.append_eq, headX, chkP, apartP, apartB, blk, strip, runAl, yld, putPs, lenN, findR, notRound, jumpK, jumpPT, jcode, List.map_cons, List.map_nil, ite_self, reduceIte]
        simp only [true_and, and_true, imp_self, implies_true, decide_eq_true_eq, decide_eq_false_iff_not, Nat.reduceAdd, Nat.reduceLeDiff, Bool.not_not, reduceCtorEq, false_imp_iff, Bool.not_eq_true', Bool.not_eq_false', Bool.false_eq_true, and_self, forall_const, ne_eq, not_false_eq_true, Nat.reduceEqDiff]
        refine ⟨fun hlt => ?_, fun hge => ?_⟩
        · have hil : i < (l.drop m).length := by omega
          have e4 : IntKind.i64.wrap ((m : Int) + (i : Int)) = ((m + i : Nat) : Int) := by rw [w6_raw (by omega) (by omega)]; omega
          simp only [e4, Int.toNat_natCast, j2 i hil, j4 i hil]
          refine ⟨⟨by omega, hlt⟩, ⟨by omega, by omega⟩, fun _ => ⟨by omega, hlt⟩, fun _ => ⟨by omega, by omega⟩, fun hc => ?_, fun _ => ⟨i + 1, by omega, by omega, ?_⟩⟩
          · simp at hc
          · have hs := w_succ (i := i) (n := l.length) (by omega) (by omega)
            simp only [hs, Bool.or_self, leS_mk, leL_cons, leL_nil, le_junk, le_int, le_bool, le_nil, leLL_nil, leLL_cons, leH_cons, leH_nil, leH1_box, leH1_own, leH1_gone, le_vs, le_agg, le_tup, le_ptr, le_own, le_xp, le_fn, le_opt, le_val, le_elem, le_nil_own, le_nil_vs, leH_ghost, leL_chunk, leXL_id, bnd_int, bnd_bool, bnd_val, bnd_nil, bnd_junk, bnd_vs, bnd_xp, bnd_agg, bnd_tup, bnd_ptr, bnd_own, bnd_elem, bnd_fn, bnd_iface, bnd_opt, bndL_nil, bndL_cons, lenH_cons, lenH_nil, imp_self, implies_true, true_and, and_true] <;> simp
        · simp only [Int.toNat_zero]
          refine ⟨fun _ => ans_bool hk', fun h0 => ⟨⟨by omega, by omega⟩, by decide, by decide, by decide, fun hq => ans_bool ?_, fun hq => ?_⟩⟩
          · rcases lasts_two (b := ⟨st, lo, hi, il, ih⟩) (d := (l.getD 0 default).2) hb (by have := hdd (by omega); omega) with ⟨e, g1, g2⟩ | e
            · rw [e] at hq; exact absurd rfl hq
            · simp only [e]; simpa using hk'
          · rcases lasts_two (b := ⟨st, lo, hi, il, ih⟩) (d := (l.getD 0 default).2) hb (by have := hdd (by omega); omega) with ⟨e, g1, g2⟩ | e
            · simp only [e]
              have hrep := ask_rep (n := 150) he (by omega) (by omega)
              have hd0 := hdd (by omega)
              have L1' := last_law (w := true) (n := il) (fit_il hb) ⟨hbo.2.2.2.1, hbo.2.2.2.2.1⟩ (d := (l.getD 0 default).2) (by omega) g1
              have L2' := last_law (w := false) (n := ih) (fit_ih hb) ⟨hbo.2.2.2.1, hbo.2.2.2.2.1⟩ (d := (l.getD 0 default).2) (by omega) g2
              refine Loop.keep [1, 1, 13, 0, 1, 0] Nat (fun i => [(20, .own 3 0 i 2), (21, .int .i64 i)]) (fun i => [(3, .own (decide (i = 0)) 2 i (fun _ => [.int .i64 (l.getD 0 default).2, .int .i64 (l.getD 0 default).2]))]) [.gone] (fun i => i ≤ 150) (fun i => 150 - i) ?_ ?_
              · refine ⟨0, Nat.zero_le _, ?_⟩
                dsimp only [r_end, r_end1, r_nil, r_op, r_opg, r_runOp, r_op0, r_yld0, r_yld1, r_y, r_rbeg, r_rend, r_rend1, r_rfrm, r_rfrm1, r_range, r_rangeK, r_rangeE, r_draw, r_dnil, r_dop, r_dopg, r_dplq, r_dplh, r_dq, r_dq0, r_dcl1, r_dcl0, r_dct1, r_dct0, r_dgd, r_dgq1, r_dgq0, r_dctG, r_op1, r_eff, r_eff0, r_call, r_call0, r_inl, r_g, r_gq, r_gc, r_effg, r_effg0, r_callg, r_callg0, r_fin, r_pre, r_imp, r_all, r_ex, r_fing, r_preg, r_exg, r_inBlock, r_inLoop, r_frame, r_frame1, r_skip, r_region, r_seq, r_cond, r_cond1, r_block, r_exit, r_exit1, r_exit2, r_ret, r_loop, s_args0, s_args1, s_xt, s_xc, padL, blankL, callee, callArgs, eff, ctOf, getL, setL, S.put, S.upd, unopts, unopt, unoptsO, unoptsB, lazyO, guardOf, gbool, eMov, eNot, eNeg, eConv, eExt, eLenArr, eLen, eLenStr, eEqb, eEqv, allEq, eNil, negIf, eBool2, eCmp, eAri, ari, eBit, eDiv, eSh, eMinMax, foldMin, foldMax, kEq, pure1, cmpB, VO.quiet, resVals, resVal, tupled, popRet, popTo, cond, Option.bind, Option.map, eNew, eBox, asCells, lenH, snocH, eFieldAddr, eField, eLoad, cellsAt, getH, setH, dropL, takeL, mkAgg, lenL, lenS, shift, shiftL, shiftH, viewN, viewL, view, andT, junks, List.append_nil, Nat.beq, eIdxAddr, eIdxArr, eIndex, eStore, storeAt, spliceL, ones, one, eSlice, eSliceArr, bounds, subLo, addLo, eMake, eAppend, readS, repL, buildCells, chunk, purgeL, purgeLL, purgeH, purge, refs, refsL, List.cons_append, List.nil_append, wrOps, wrAl, wrDops, wrC, junkAt, putAll, putHs, headOf, headK, keepG, List.append_eq, headX, chkP, apartP, apartB, blk, strip, runAl, yld, putPs, lenN, findR, notRound, jumpK, jumpPT, jcode, List.map_cons, List.map_nil, ite_self, reduceIte]
                simp only [leS_mk, leL_cons, leL_nil, le_junk, le_int, le_bool, le_nil, leLL_nil, leLL_cons, leH_cons, leH_nil, leH1_box, leH1_own, leH1_gone, le_vs, le_agg, le_tup, le_ptr, le_own, le_xp, le_fn, le_opt, le_val, le_elem, le_nil_own, le_nil_vs, leH_ghost, leL_chunk, leXL_id, bnd_int, bnd_bool, bnd_val, bnd_nil, bnd_junk, bnd_vs, bnd_xp, bnd_agg, bnd_tup, bnd_ptr, bnd_own, bnd_elem, bnd_fn, bnd_iface, bnd_opt, bndL_nil, bndL_cons, lenH_cons, lenH_nil, imp_self, implies_true, true_and, and_true] <;> simp
              · intro i hi'
                dsimp only [L1_ct9, trueC, L1_ct14, failsC, demC, L1_ct26, ivC, enc2, Int.toNat_natCast, r_end, r_end1, r_nil, r_op, r_opg, r_runOp, r_op0, r_yld0, r_yld1, r_y, r_rbeg, r_rend, r_rend1, r_rfrm, r_rfrm1, r_range, r_rangeK, r_rangeE, r_draw, r_dnil, r_dop, r_dopg, r_dplq, r_dplh, r_dq, r_dq0, r_dcl1, r_dcl0, r_dct1, r_dct0, r_dgd, r_dgq1, r_dgq0, r_dctG, r_op1, r_eff, r_eff0, r_call, r_call0, r_inl, r_g, r_gq, r_gc, r_effg, r_effg0, r_callg, r_callg0, r_fin, r_pre, r_imp, r_all, r_ex, r_fing, r_preg, r_exg, r_inBlock, r_inLoop, r_frame, r_frame1, r_skip, r_region, r_seq, r_cond, r_cond1, r_block, r_exit, r_exit1, r_exit2, r_ret, r_loop, s_args0, s_args1, s_xt, s_xc, padL, blankL, callee, callArgs, eff, ctOf, getL, setL, S.put, S.upd, unopts, unopt, unoptsO, unoptsB, lazyO, guardOf, gbool, eMov, eNot, eNeg, eConv, eExt, eLenArr, eLen, eLenStr, eEqb, eEqv, allEq, eNil, negIf, eBool2, eCmp, eAri, ari, eBit, eDiv, eSh, eMinMax, foldMin, foldMax, kEq, pure1, cmpB, VO.quiet, resVals, resVal, tupled, popRet, popTo, cond, Option.bind, Option.map, eNew, eBox, asCells, lenH, snocH, eFieldAddr, eField, eLoad, cellsAt, getH, setH, dropL, takeL, mkAgg, lenL, lenS, shift, shiftL, shiftH, viewN, viewL, view, andT, junks, List.append_nil, Nat.beq, eIdxAddr, eIdxArr, eIndex, eStore, storeAt, spliceL, ones, one, eSlice, eSliceArr, bounds, subLo, addLo, eMake, eAppend, readS, repL, buildCells, chunk, purgeL, purgeLL, purgeH, purge, refs, refsL, List.cons_append, List.nil_append, wrOps, wrAl, wrDops, wrC, junkAt, putAll, putHs, headOf, headK, keepG, List.append_eq, headX, chkP, apartP, apartB, blk, strip, runAl, yld, putPs, lenN, findR, notRound, jumpK, jumpPT, jcode, List.map_cons, List.map_nil, ite_self, reduceIte]
                simp only [true_and, and_true, imp_self, implies_true, decide_eq_true_eq, decide_eq_false_iff_not, Nat.reduceAdd, Nat.reduceLeDiff, Bool.not_not, reduceCtorEq, false_imp_iff, Bool.not_eq_true', Bool.not_eq_false', Bool.false_eq_true, and_self, forall_const, ne_eq, not_false_eq_true, Nat.reduceEqDiff]
                refine ⟨fun hlt => ?_, fun hge => ?_⟩
                · dsimp only [L1_ct9, trueC, L1_ct14, failsC, demC, L1_ct26, ivC, enc2, Int.toNat_natCast, r_end, r_end1, r_nil, r_op, r_opg, r_runOp, r_op0, r_yld0, r_yld1, r_y, r_rbeg, r_rend, r_rend1, r_rfrm, r_rfrm1, r_range, r_rangeK, r_rangeE, r_draw, r_dnil, r_dop, r_dopg, r_dplq, r_dplh, r_dq, r_dq0, r_dcl1, r_dcl0, r_dct1, r_dct0, r_dgd, r_dgq1, r_dgq0, r_dctG, r_op1, r_eff, r_eff0, r_call, r_call0, r_inl, r_g, r_gq, r_gc, r_effg, r_effg0, r_callg, r_callg0, r_fin, r_pre, r_imp, r_all, r_ex, r_fing, r_preg, r_exg, r_inBlock, r_inLoop, r_frame, r_frame1, r_skip, r_region, r_seq, r_cond, r_cond1, r_block, r_exit, r_exit1, r_exit2, r_ret, r_loop, s_args0, s_args1, s_xt, s_xc, padL, blankL, callee, callArgs, eff, ctOf, getL, setL, S.put, S.upd, unopts, unopt, unoptsO, unoptsB, lazyO, guardOf, gbool, eMov, eNot, eNeg, eConv, eExt, eLenArr, eLen, eLenStr, eEqb, eEqv, allEq, eNil, negIf, eBool2, eCmp, eAri, ari, eBit, eDiv, eSh, eMinMax, foldMin, foldMax, kEq, pure1, cmpB, VO.quiet, resVals, resVal, tupled, popRet, popTo, cond, Option.bind, Option.map, eNew, eBox, asCells, lenH, snocH, eFieldAddr, eField, eLoad, cellsAt, getH, setH, dropL, takeL, mkAgg, lenL, lenS, shift, shiftL, shiftH, viewN, viewL, view, andT, junks, List.append_nil, Nat.beq, eIdxAddr, eIdxArr, eIndex, eStore, storeAt, spliceL, ones, one, eSlice, eSliceArr, bounds, subLo, addLo, eMake, eAppend, readS, repL, buildCells, chunk, purgeL, purgeLL, purgeH, purge, refs, refsL, List.cons_append, List.nil_append, wrOps, wrAl, wrDops, wrC, junkAt, putAll, putHs, headOf, headK, keepG, List.append_eq, headX, chkP, apartP, apartB, blk, strip, runAl, yld, putPs, lenN, findR, notRound, jumpK, jumpPT, jcode, List.map_cons, List.map_nil, ite_self, reduceIte]
                  simp only [true_and, and_true, imp_self, implies_true, decide_eq_true_eq, decide_eq_false_iff_not, Nat.reduceAdd, Nat.reduceLeDiff, Bool.not_not, reduceCtorEq, false_imp_iff, Bool.not_eq_true', Bool.not_eq_false', Bool.false_eq_true, and_self, forall_const, ne_eq, not_false_eq_true, Nat.reduceEqDiff]
                  simp only [Int.toNat_zero]
                  refine ⟨⟨by omega, by omega⟩, ⟨by omega, by omega⟩, by decide, ⟨by simp only [capOk]; omega, fun q hq => ?_⟩, i + 1, by omega, by omega, ?_⟩
                  · match q, hq with
                    | 0, _ => exact ⟨rfl, trivial, trivial, trivial⟩
                  · have hs := w_succ (i := i) (n := 150) (by omega) (by omega)
                    simp only [hs, Bool.or_self, leS_mk, leL_cons, leL_nil, le_junk, le_int, le_bool, le_nil, leLL_nil, leLL_cons, leH_cons, leH_nil, leH1_box, leH1_own, leH1_gone, le_vs, le_agg, le_tup, le_ptr, le_own, le_xp, le_fn, le_opt, le_val, le_elem, le_nil_own, le_nil_vs, leH_ghost, leL_chunk, leXL_id, bnd_int, bnd_bool, bnd_val, bnd_nil, bnd_junk, bnd_vs, bnd_xp, bnd_agg, bnd_tup, bnd_ptr, bnd_own, bnd_elem, bnd_fn, bnd_iface, bnd_opt, bndL_nil, bndL_cons, lenH_cons, lenH_nil, imp_self, implies_true, true_and, and_true]
                    refine ⟨⟨by omega, by omega⟩, by simp, fun q hq => ?_⟩
                    rcases Nat.lt_or_ge q i with h' | h'
                    · rw [if_pos h']; exact leL_self _ ⟨trivial, trivial, trivial⟩
                    · obtain rfl : q = i := by omega
                      rw [if_neg (by omega), Nat.sub_self]
                      exact leL_self _ ⟨trivial, trivial, trivial⟩
                · obtain rfl : i = 150 := by omega
                  have hrp : lsP 2 enc2 150 2 (fun _ => [SV.int .i64 (l.getD 0 default).2, SV.int .i64 (l.getD 0 default).2]) (List.replicate 150 ((l.getD 0 default).2, (l.getD 0 default).2)) := ⟨rfl, by rw [List.length_replicate], fun q hq => by rw [rep_get hq]; exact leXL_self _⟩
                  refine ⟨List.replicate 150 ((l.getD 0 default).2, (l.getD 0 default).2), ⟨hrp, by rw [List.length_replicate]; omega⟩, by decide, by decide, by decide, ?_⟩
                  simp only [fails_is hrep]
                  have hx : ∀ x : Bool, x = true → k (.bool x) [] := fun x hx => by rw [hx]; exact hk'
                  simp only at L1' L2'
                  repeat' apply And.intro
                  all_goals try (intro a c; simp_all; done)
                  · intro a c
                    rw [a, decide_eq_false c]; rfl
                  · intro a c
                    rw [a, decide_eq_false c]; rfl
                  · refine ans_bool (hx _ ?_)
                    simp only [Bool.and_eq_true, Bool.or_eq_true, decide_eq_true_eq, decide_true, true_and, and_true]
                    omega
            · rw [e] at hq; exact absurd hq (by decide)
    · simp only [Int.toNat_zero]
      have hdd := fun h0 : 0 < l.length => hd 0 h0
      refine ⟨fun _ => ans_bool hk', fun h0 => ⟨⟨by omega, by omega⟩, by decide, by decide, by decide, fun hq => ans_bool ?_, fun hq => ?_⟩⟩
      · rcases lasts_two (b := ⟨st, lo, hi, il, ih⟩) (d := (l.getD 0 default).2) hb (by have := hdd (by omega); omega) with ⟨e, g1, g2⟩ | e
        · rw [e] at hq; exact absurd rfl hq
        · simp only [e]; simpa using hk'
      · rcases lasts_two (b := ⟨st, lo, hi, il, ih⟩) (d := (l.getD 0 default).2) hb (by have := hdd (by omega); omega) with ⟨e, g1, g2⟩ | e
        · simp only [e]
          have hrep := ask_rep (n := 150) he (by omega) (by omega)
          have hd0 := hdd (by omega)
          have L1' := last_law (w := true) (n := il) (fit_il hb) ⟨hbo.2.2.2.1, hbo.2.2.2.2.1⟩ (d := (l.getD 0 default).2) (by omega) g1
          have L2' := last_law (w := false) (n := ih) (fit_ih hb) ⟨hbo.2.2.2.1, hbo.2.2.2.2.1⟩ (d := (l.getD 0 default).2) (by omega) g2
          refine Loop.keep [1, 1, 13, 0, 1, 0] Nat (fun i => [(20, .own 1 0 i 2), (21, .int .i64 i)]) (fun i => [(1, .own (decide (i = 0)) 2 i (fun _ => [.int .i64 (l.getD 0 default).2, .int .i64 (l.getD 0 default).2]))]) [.gone] (fun i => i ≤ 150) (fun i => 150 - i) ?_ ?_
          · refine ⟨0, Nat.zero_le _, ?_⟩
            dsimp only [r_end, r_end1, r_nil, r_op, r_opg, r_runOp, r_op0, r_yld0, r_yld1, r_y, r_rbeg, r_rend, r_rend1, r_rfrm, r_rfrm1, r_range, r_rangeK, r_rangeE, r_draw, r_dnil, r_dop, r_dopg, r_dplq, r_dplh, r_dq, r_dq0, r_dcl1, r_dcl0, r_dct1, r_dct0, r_dgd, r_dgq1, r_dgq0, r_dctG, r_op1, r_eff, r_eff0, r_call, r_call0, r_inl, r_g, r_gq, r_gc, r_effg, r_effg0, r_callg, r_callg0, r_fin, r_pre, r_imp, r_all, r_ex, r_fing, r_preg, r_exg, r_inBlock, r_inLoop, r_frame, r_frame1, r_skip, r_region, r_seq, r_cond, r_cond1, r_block, r_exit, r_exit1, r_exit2, r_ret, r_loop, s_args0, s_args1, s_xt, s_xc, padL, blankL, callee, callArgs, eff, ctOf, getL, setL, S.put, S.upd, unopts, unopt, unoptsO, unoptsB, lazyO, guardOf, gbool, eMov, eNot, eNeg, eConv, eExt, eLenArr, eLen, eLenStr, eEqb, eEqv, allEq, eNil, negIf, eBool2, eCmp, eAri, ari, eBit, eDiv, eSh, eMinMax, foldMin, foldMax, kEq, pure1, cmpB, VO.quiet, resVals, resVal, tupled, popRet, popTo, cond, Option.bind, Option.map, eNew, eBox, asCells, lenH, snocH, eFieldAddr, eField, eLoad, cellsAt, getH, setH, dropL, takeL, mkAgg, lenL, lenS, shift, shiftL, shiftH, viewN, viewL, view, andT, junks, List.append_nil, Nat.beq, eIdxAddr, eIdxArr, eIndex, eStore, storeAt, spliceL, ones, one, eSlice, eSliceArr, bounds, subLo, addLo, eMake, eAppend, readS, repL, buildCells, chunk, purgeL, purgeLL, purgeH, purge, refs, refsL, List.cons_append, List.nil_append, wrOps, wrAl, wrDops, wrC, junkAt, putAll, putHs, headOf, headK, keepG, List.append_eq, headX, chkP, apartP, apartB, blk, strip, runAl, yld, putPs, lenN, findR, notRound, jumpK, jumpPT, jcode, List.map_cons, List.map_nil, ite_self, reduceIte]
            simp only [leS_mk, leL_cons, leL_nil, le_junk, le_int, le_bool, le_nil, leLL_nil, leLL_cons, leH_cons, leH_nil, leH1_box, leH1_own, leH1_gone, le_vs, le_agg, le_tup, le_ptr, le_own, le_xp, le_fn, le_opt, le_val, le_elem, le_nil_own, le_nil_vs, leH_ghost, leL_chunk, leXL_id, bnd_int, bnd_bool, bnd_val, bnd_nil, bnd_junk, bnd_vs, bnd_xp, bnd_agg, bnd_tup, bnd_ptr, bnd_own, bnd_elem, bnd_fn, bnd_iface, bnd_opt, bndL_nil, bndL_cons, lenH_cons, lenH_nil, imp_self, implies_true, true_and, and_true] <;> simp
          · intro i hi'
            dsimp only [L1_ct9, trueC, L1_ct14, failsC, demC, L1_ct26, ivC, enc2, Int.toNat_natCast, r_end, r_end1, r_nil, r_op, r_opg, r_runOp, r_op0, r_yld0, r_yld1, r_y, r_rbeg, r_rend, r_rend1, r_rfrm, r_rfrm1, r_range, r_rangeK, r_rangeE, r_draw, r_dnil, r_dop, r_dopg, r_dplq, r_dplh, r_dq, r_dq0, r_dcl1, r_dcl0, r_dct1, r_dct0, r_dgd, r_dgq1, r_dgq0, r_dctG, r_op1, r_eff, r_eff0, r_call, r_call0, r_inl, r_g, r_gq, r_gc, r_effg, r_effg0, r_callg, r_callg0, r_fin, r_pre, r_imp, r_all, r_ex, r_fing, r_preg, r_exg, r_inBlock, r_inLoop, r_frame, r_frame1, r_skip, r_region, r_seq, r_cond, r_cond1, r_block, r_exit, r_exit1, r_exit2, r_ret, r_loop, s_args0, s_args1, s_xt, s_xc, padL, blankL, callee, callArgs, eff, ctOf, getL, setL, S.put, S.upd, unopts, unopt, unoptsO, unoptsB, lazyO, guardOf, gbool, eMov, eNot, eNeg, eConv, eExt, eLenArr, eLen, eLenStr, eEqb, eEqv, allEq, eNil, negIf, eBool2, eCmp, eAri, ari, eBit, eDiv, eSh, eMinMax, foldMin, foldMax, kEq, pure1, cmpB, VO.quiet, resVals, resVal, tupled, popRet, popTo, cond, Option.bind, Option.map, eNew, eBox, asCells, lenH, snocH, eFieldAddr, eField, eLoad, cellsAt, getH, setH, dropL, takeL, mkAgg, lenL, lenS, shift, shiftL, shiftH, viewN, viewL, view, andT, junks, List.append_nil, Nat.beq, eIdxAddr, eIdxArr, eIndex, eStore, storeAt, spliceL, ones, one, eSlice, eSliceArr, bounds, subLo, addLo, eMake, eAppend, readS, repL, buildCells, chunk, purgeL, purgeLL, purgeH, purge, refs, refsL, List.cons_append, List.nil_append, wrOps, wrAl, wrDops, wrC, junkAt, putAll, putHs, headOf, headK, keepG, List.append_eq, headX, chkP, apartP, apartB, blk, strip, runAl, yld, putPs, lenN, findR, notRound, jumpK, jumpPT, jcode, List.map_cons, List.map_nil, ite_self, reduceIte]
            simp only [true_and, and_true, imp_self, implies_true, decide_eq_true_eq, decide_eq_false_iff_not, Nat.reduceAdd, Nat.reduceLeDiff, Bool.not_not, reduceCtorEq, false_imp_iff, Bool.not_eq_true', Bool.not_eq_false', Bool.false_eq_true, and_self, forall_const, ne_eq, not_false_eq_true, Nat.reduceEqDiff]
            refine ⟨fun hlt => ?_, fun hge => ?_⟩
            · dsimp only [L1_ct9, trueC, L1_ct14, failsC, demC, L1_ct26, ivC, enc2, Int.toNat_natCast, r_end, r_end1, r_nil, r_op, r_opg, r_runOp, r_op0, r_yld0, r_yld1, r_y, r_rbeg, r_rend, r_rend1, r_rfrm, r_rfrm1, r_range, r_rangeK, r_rangeE, r_draw, r_dnil, r_dop, r_dopg, r_dplq, r_dplh, r_dq, r_dq0, r_dcl1, r_dcl0, r_dct1, r_dct0, r_dgd, r_dgq1, r_dgq0, r_dctG, r_op1, r_eff, r_eff0, r_call, r_call0, r_inl, r_g, r_gq, r_gc, r_effg, r_effg0, r_callg, r_callg0, r_fin, r_pre, r_imp, r_all, r_ex, r_fing, r_preg, r_exg, r_inBlock, r_inLoop, r_frame, r_frame1, r_skip, r_region, r_seq, r_cond, r_cond1, r_block, r_exit, r_exit1, r_exit2, r_ret, r_loop, s_args0, s_args1, s_xt, s_xc, padL, blankL, callee, callArgs, eff, ctOf, getL, setL, S.put, S.upd, unopts, unopt, unoptsO, unoptsB, lazyO, guardOf, gbool, eMov, eNot, eNeg, eConv, eExt, eLenArr, eLen, eLenStr, eEqb, eEqv, allEq, eNil, negIf, eBool2, eCmp, eAri, ari, eBit, eDiv, eSh, eMinMax, foldMin, foldMax, kEq, pure1, cmpB, VO.quiet, resVals, resVal, tupled, popRet, popTo, cond, Option.bind, Option.map, eNew, eBox, asCells, lenH, snocH, eFieldAddr, eField, eLoad, cellsAt, getH, setH, dropL, takeL, mkAgg, lenL, lenS, shift, shiftL, shiftH, viewN, viewL, view, andT, junks, List.append_nil, Nat.beq, eIdxAddr, eIdxArr, eIndex, eStore, storeAt, spliceL, ones, one, eSlice, eSliceArr, bounds, subLo, addLo, eMake, eAppend, readS, repL, buildCells, chunk, purgeL, purgeLL, purgeH, purge, refs, refsL, List.cons_append, List.nil_append, wrOps, wrAl, wrDops, wrC, junkAt, putAll, putHs, headOf, headK, keepG, List.append_eq, headX, chkP, apartP, apartB, blk, strip, runAl, yld, putPs, lenN, findR, notRound, jumpK, jumpPT, jcode, List.map_cons, List.map_nil, ite_self, reduceIte]
              simp only [true_and, and_true, imp_self, implies_true, decide_eq_true_eq, decide_eq_false_iff_not, Nat.reduceAdd, Nat.reduceLeDiff, Bool.not_not, reduceCtorEq, false_imp_iff, Bool.not_eq_true', Bool.not_eq_false', Bool.false_eq_true, and_self, forall_const, ne_eq, not_false_eq_true, Nat.reduceEqDiff]
              simp only [Int.toNat_zero]
              refine ⟨⟨by omega, by omega⟩, ⟨by omega, by omega⟩, by decide, ⟨by simp only [capOk]; omega, fun q hq => ?_⟩, i + 1, by omega, by omega, ?_⟩
              · match q, hq with
                | 0, _ => exact ⟨rfl, trivial, trivial, trivial⟩
              · have hs := w_succ (i := i) (n := 150) (by omega) (by omega)
                simp only [hs, Bool.or_self, leS_mk, leL_cons, leL_nil, le_junk, le_int, le_bool, le_nil, leLL_nil, leLL_cons, leH_cons, leH_nil, leH1_box, leH1_own, leH1_gone, le_vs, le_agg, le_tup, le_ptr, le_own, le_xp, le_fn, le_opt, le_val, le_elem, le_nil_own, le_nil_vs, leH_ghost, leL_chunk, leXL_id, bnd_int, bnd_bool, bnd_val, bnd_nil, bnd_junk, bnd_vs, bnd_xp, bnd_agg, bnd_tup, bnd_ptr, bnd_own, bnd_elem, bnd_fn, bnd_iface, bnd_opt, bndL_nil, bndL_cons, lenH_cons, lenH_nil, imp_self, implies_true, true_and, and_true]
                refine ⟨⟨by omega, by omega⟩, by simp, fun q hq => ?_⟩
                rcases Nat.lt_or_ge q i with h' | h'
                · rw [if_pos h']; exact leL_self _ ⟨trivial, trivial, trivial⟩
                · obtain rfl : q = i := by omega
                  rw [if_neg (by omega), Nat.sub_self]
                  exact leL_self _ ⟨trivial, trivial, trivial⟩
            · obtain rfl : i = 150 := by omega
              have hrp : lsP 2 enc2 150 2 (fun _ => [SV.int .i64 (l.getD 0 default).2, SV.int .i64 (l.getD 0 default).2]) (List.replicate 150 ((l.getD 0 default).2, (l.getD 0 default).2)) := ⟨rfl, by rw [List.length_replicate], fun q hq => by rw [rep_get hq]; exact leXL_self _⟩
              refine ⟨List.replicate 150 ((l.getD 0 default).2, (l.getD 0 default).2), ⟨hrp, by rw [List.length_replicate]; omega⟩, by decide, by decide, by decide, ?_⟩
              simp only [fails_is hrep]
              have hx : ∀ x : Bool, x = true → k (.bool x) [] := fun x hx => by rw [hx]; exact hk'
              simp only at L1' L2'
              repeat' apply And.intro
              all_goals try (intro a c; simp_all; done)
              · intro a c
                rw [a, decide_eq_false c]; rfl
              · intro a c
                rw [a, decide_eq_false c]; rfl
              · refine ans_bool (hx _ ?_)
                simp only [Bool.and_eq_true, Bool.or_eq_true, decide_eq_true_eq, decide_true, true_and, and_true]
                omega
        · rw [e] at hq; exact absurd hq (by decide)
end Go.Proofs.Ytliipeebknljdaa
