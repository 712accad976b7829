/- Trackers: the law of rising, walked. -/
import Derived.Test.YtmhlinndhmdjlaaW7
import Derived.Test.YtmhlinndhmdjlaaS5
set_option linter.all false
namespace Go.Proofs.Ytmhlinndhmdjlaa
open Go Go.Vx
set_option maxRecDepth 100000
set_option maxHeartbeats 4000000

def v5 : VF := { ntmps := 309, res := [.tmp 2], body :=
 (.seq (.region [⟨(some 1), none, .box, [.tm 0]⟩,
  ⟨(some 2), none, .mov, [.cn (.bool false)]⟩])
 (.seq (.draw [(3, [.nil, (.int .i64 0), (.int .i64 0)])] [⟨⟨(some 26), none, (.fieldAddr 0), [.tm 1]⟩, []⟩,
  ⟨⟨(some 27), none, (.load true 3), [.tm 26]⟩, []⟩,
  ⟨⟨(some 28), none, (.fieldAddr 3), [.tm 1]⟩, []⟩,
  ⟨⟨(some 29), none, (.load false 1), [.tm 28]⟩, []⟩,
  ⟨⟨(some 30), none, (.fieldAddr 4), [.tm 1]⟩, []⟩,
  ⟨⟨(some 31), none, (.load false 1), [.tm 30]⟩, []⟩,
  ⟨⟨(some 32), none, (.fieldAddr 5), [.tm 1]⟩, []⟩,
  ⟨⟨(some 33), none, (.load false 1), [.tm 32]⟩, []⟩,
  ⟨⟨none, none, (.store 3), [.tm 3, .tm 27]⟩, [.tm 28, .tm 30, .tm 32]⟩,
  ⟨⟨(some 4), none, .mov, [.tm 29]⟩, []⟩,
  ⟨⟨(some 5), none, .mov, [.tm 31]⟩, []⟩,
  ⟨⟨(some 6), none, .mov, [.tm 33]⟩, []⟩])
 (.seq (.seq (.region [⟨(some 34), none, (.load true 3), [.tm 3]⟩,
  ⟨(some 35), none, (.call 14), [.tm 34]⟩,
  ⟨(some 36), none, (.cmp .neq), [.tm 35, .cn (.int .i64 0)]⟩,
  ⟨(some 37), none, .mov, [.tm 36]⟩,
  ⟨(some 38), (some (37, false)), .mov, [.tm 4]⟩,
  ⟨(some 39), (some (37, false)), (.cmp .lss), [.tm 38, .cn (.int .i64 0)]⟩,
  ⟨(some 40), none, .or, [.tm 37, .tm 39]⟩,
  ⟨(some 41), none, .mov, [.tm 40]⟩,
  ⟨(some 42), (some (41, false)), .mov, [.tm 4]⟩,
  ⟨(some 43), (some (41, false)), (.cmp .geq), [.tm 42, .cn (.int .i64 100)]⟩,
  ⟨(some 44), none, .or, [.tm 41, .tm 43]⟩,
  ⟨(some 45), none, .mov, [.tm 44]⟩,
  ⟨(some 46), (some (45, false)), .mov, [.tm 5]⟩,
  ⟨(some 47), (some (45, false)), (.cmp .lss), [.tm 46, .cn (.int .i64 0)]⟩,
  ⟨(some 48), none, .or, [.tm 45, .tm 47]⟩,
  ⟨(some 49), none, .mov, [.tm 48]⟩,
  ⟨(some 50), (some (49, false)), .mov, [.tm 5]⟩,
  ⟨(some 51), (some (49, false)), (.cmp .geq), [.tm 50, .cn (.int .i64 50000)]⟩,
  ⟨(some 52), none, .or, [.tm 49, .tm 51]⟩,
  ⟨(some 53), none, .mov, [.tm 52]⟩,
  ⟨(some 54), (some (53, false)), .mov, [.tm 6]⟩,
  ⟨(some 55), (some (53, false)), (.cmp .lss), [.tm 54, .cn (.int .i64 0)]⟩,
  ⟨(some 56), none, .or, [.tm 53, .tm 55]⟩,
  ⟨(some 57), none, .mov, [.tm 56]⟩,
  ⟨(some 58), (some (57, false)), .mov, [.tm 6]⟩,
  ⟨(some 59), (some (57, false)), (.cmp .gtr), [.tm 58, .cn (.int .i64 50000)]⟩,
  ⟨(some 60), none, .or, [.tm 57, .tm 59]⟩])
 (.cond (.tm 60) (.seq (.region [⟨(some 61), none, (.call 8), []⟩,
  ⟨(some 2), none, .mov, [.tm 61]⟩])
 .ret)
  .skip))
 (.seq (.region [⟨(some 63), none, (.load true 3), [.tm 3]⟩,
  ⟨(some 64), none, .mov, [.tm 4]⟩,
  ⟨(some 65), none, .mov, [.tm 5]⟩,
  ⟨(some 66), none, (.call 9), [.tm 63, .tm 64, .tm 65]⟩,
  ⟨(some 62), none, .mov, [.tm 66]⟩,
  ⟨(some 67), none, (.ext 0), [.tm 62]⟩,
  ⟨(some 68), none, (.ext 1), [.tm 62]⟩,
  ⟨(some 7), none, (.alloc [(.int .i64 0), (.int .i64 0)]), []⟩,
  ⟨none, none, (.store 2), [.tm 7, .tm 67]⟩,
  ⟨(some 8), none, .mov, [.tm 68]⟩])
 (.seq (.region [⟨(some 70), none, (.load true 3), [.tm 3]⟩,
  ⟨(some 71), none, .mov, [.tm 4]⟩,
  ⟨(some 72), none, .mov, [.tm 5]⟩,
  ⟨(some 73), none, (.ari .add), [.tm 72, .cn (.int .i64 1)]⟩,
  ⟨(some 74), none, (.call 9), [.tm 70, .tm 71, .tm 73]⟩,
  ⟨(some 69), none, .mov, [.tm 74]⟩,
  ⟨(some 75), none, (.ext 0), [.tm 69]⟩,
  ⟨(some 76), none, (.ext 1), [.tm 69]⟩,
  ⟨(some 9), none, (.alloc [(.int .i64 0), (.int .i64 0)]), []⟩,
  ⟨none, none, (.store 2), [.tm 9, .tm 75]⟩,
  ⟨(some 10), none, .mov, [.tm 76]⟩])
 (.seq (.region [⟨(some 78), none, (.load true 3), [.tm 3]⟩,
  ⟨(some 79), none, .mov, [.tm 4]⟩,
  ⟨(some 80), none, (.ari .add), [.tm 79, .cn (.int .i64 1)]⟩,
  ⟨(some 81), none, .mov, [.tm 5]⟩,
  ⟨(some 82), none, (.call 9), [.tm 78, .tm 80, .tm 81]⟩,
  ⟨(some 77), none, .mov, [.tm 82]⟩,
  ⟨(some 83), none, (.ext 0), [.tm 77]⟩,
  ⟨(some 84), none, (.ext 1), [.tm 77]⟩,
  ⟨(some 11), none, (.alloc [(.int .i64 0), (.int .i64 0)]), []⟩,
  ⟨none, none, (.store 2), [.tm 11, .tm 83]⟩,
  ⟨(some 12), none, .mov, [.tm 84]⟩])
 (.seq (.region [⟨(some 86), none, (.load true 3), [.tm 3]⟩,
  ⟨(some 87), none, .mov, [.tm 4]⟩,
  ⟨(some 88), none, (.call 9), [.tm 86, .tm 87, .cn (.int .i64 0)]⟩,
  ⟨(some 85), none, .mov, [.tm 88]⟩,
  ⟨(some 89), none, (.ext 0), [.tm 85]⟩,
  ⟨(some 90), none, (.ext 1), [.tm 85]⟩,
  ⟨(some 13), none, (.alloc [(.int .i64 0), (.int .i64 0)]), []⟩,
  ⟨none, none, (.store 2), [.tm 13, .tm 89]⟩,
  ⟨(some 14), none, .mov, [.tm 90]⟩])
 (.seq (.seq (.region [⟨(some 91), none, .mov, [.tm 8]⟩,
  ⟨(some 92), none, (.cmp .neq), [.tm 91, .cn (.int .i64 0)]⟩,
  ⟨(some 93), none, .mov, [.tm 92]⟩,
  ⟨(some 94), (some (93, false)), .mov, [.tm 10]⟩,
  ⟨(some 95), (some (93, false)), (.cmp .neq), [.tm 94, .cn (.int .i64 0)]⟩,
  ⟨(some 96), none, .or, [.tm 93, .tm 95]⟩,
  ⟨(some 97), none, .mov, [.tm 96]⟩,
  ⟨(some 98), (some (97, false)), .mov, [.tm 12]⟩,
  ⟨(some 99), (some (97, false)), (.cmp .neq), [.tm 98, .cn (.int .i64 0)]⟩,
  ⟨(some 100), none, .or, [.tm 97, .tm 99]⟩,
  ⟨(some 101), none, .mov, [.tm 100]⟩,
  ⟨(some 102), (some (101, false)), .mov, [.tm 14]⟩,
  ⟨(some 103), (some (101, false)), (.cmp .neq), [.tm 102, .cn (.int .i64 0)]⟩,
  ⟨(some 104), none, .or, [.tm 101, .tm 103]⟩,
  ⟨(some 105), none, .mov, [.tm 104]⟩,
  ⟨(some 106), (some (105, false)), (.fieldAddr 0), [.tm 9]⟩,
  ⟨(some 107), (some (105, false)), (.load false 1), [.tm 106]⟩,
  ⟨(some 108), (some (105, false)), (.fieldAddr 0), [.tm 7]⟩,
  ⟨(some 109), (some (105, false)), (.load false 1), [.tm 108]⟩,
  ⟨(some 110), (some (105, false)), (.cmp .lss), [.tm 107, .tm 109]⟩,
  ⟨(some 111), none, .or, [.tm 105, .tm 110]⟩,
  ⟨(some 112), none, .mov, [.tm 111]⟩,
  ⟨(some 113), (some (112, false)), (.fieldAddr 1), [.tm 9]⟩,
  ⟨(some 114), (some (112, false)), (.load false 1), [.tm 113]⟩,
  ⟨(some 115), (some (112, false)), (.fieldAddr 1), [.tm 7]⟩,
  ⟨(some 116), (some (112, false)), (.load false 1), [.tm 115]⟩,
  ⟨(some 117), (some (112, false)), (.cmp .lss), [.tm 114, .tm 116]⟩,
  ⟨(some 118), none, .or, [.tm 112, .tm 117]⟩,
  ⟨(some 119), none, .mov, [.tm 118]⟩,
  ⟨(some 120), (some (119, false)), (.fieldAddr 0), [.tm 11]⟩,
  ⟨(some 121), (some (119, false)), (.load false 1), [.tm 120]⟩,
  ⟨(some 122), (some (119, false)), (.fieldAddr 0), [.tm 7]⟩,
  ⟨(some 123), (some (119, false)), (.load false 1), [.tm 122]⟩,
  ⟨(some 124), (some (119, false)), (.cmp .lss), [.tm 121, .tm 123]⟩,
  ⟨(some 125), none, .or, [.tm 119, .tm 124]⟩,
  ⟨(some 126), none, .mov, [.tm 125]⟩,
  ⟨(some 127), (some (126, false)), (.fieldAddr 1), [.tm 11]⟩,
  ⟨(some 128), (some (126, false)), (.load false 1), [.tm 127]⟩,
  ⟨(some 129), (some (126, false)), (.fieldAddr 1), [.tm 7]⟩,
  ⟨(some 130), (some (126, false)), (.load false 1), [.tm 129]⟩,
  ⟨(some 131), (some (126, false)), (.cmp .lss), [.tm 128, .tm 130]⟩,
  ⟨(some 132), none, .or, [.tm 126, .tm 131]⟩,
  ⟨(some 133), none, .mov, [.tm 132]⟩,
  ⟨(some 134), (some (133, false)), (.load true 2), [.tm 13]⟩,
  ⟨(some 135), (some (133, false)), (.build [(.int .i64 0), (.int .i64 0)] []), []⟩,
  ⟨(some 136), (some (133, false)), (.eqv true [true, true]), [.tm 134, .tm 135]⟩,
  ⟨(some 137), none, .or, [.tm 133, .tm 136]⟩,
  ⟨(some 138), none, .mov, [.tm 137]⟩,
  ⟨(some 139), (some (138, false)), (.fieldAddr 1), [.tm 7]⟩,
  ⟨(some 140), (some (138, false)), (.load false 1), [.tm 139]⟩,
  ⟨(some 141), (some (138, false)), (.fieldAddr 0), [.tm 7]⟩,
  ⟨(some 142), (some (138, false)), (.load false 1), [.tm 141]⟩,
  ⟨(some 143), (some (138, false)), (.cmp .lss), [.tm 140, .tm 142]⟩,
  ⟨(some 144), none, .or, [.tm 138, .tm 143]⟩,
  ⟨(some 145), none, .mov, [.tm 144]⟩,
  ⟨(some 146), (some (145, false)), (.fieldAddr 1), [.tm 7]⟩,
  ⟨(some 147), (some (145, false)), (.load false 1), [.tm 146]⟩,
  ⟨(some 148), (some (145, false)), (.fieldAddr 0), [.tm 7]⟩,
  ⟨(some 149), (some (145, false)), (.load false 1), [.tm 148]⟩,
  ⟨(some 150), (some (145, false)), (.ari .add), [.tm 149, .cn (.int .i64 1)]⟩,
  ⟨(some 151), (some (145, false)), (.cmp .gtr), [.tm 147, .tm 150]⟩,
  ⟨(some 152), none, .or, [.tm 145, .tm 151]⟩])
 (.cond (.tm 152) (.seq (.region [⟨(some 2), none, .mov, [.cn (.bool false)]⟩])
 .ret)
  .skip))
 (.seq (.region [⟨(some 154), none, (.load true 3), [.tm 3]⟩,
  ⟨(some 155), none, .mov, [.tm 4]⟩,
  ⟨(some 156), none, .mov, [.tm 6]⟩,
  ⟨(some 157), none, (.call 11), [.tm 154, .tm 155, .tm 156]⟩,
  ⟨(some 153), none, .mov, [.tm 157]⟩,
  ⟨(some 158), none, (.ext 0), [.tm 153]⟩,
  ⟨(some 159), none, (.ext 1), [.tm 153]⟩,
  ⟨(some 15), none, .mov, [.tm 158]⟩,
  ⟨(some 8), none, .mov, [.tm 159]⟩])
 (.seq (.seq (.region [⟨(some 160), none, .mov, [.tm 8]⟩,
  ⟨(some 161), none, (.cmp .eql), [.tm 160, .cn (.int .i64 0)]⟩])
 (.cond (.tm 161) (.seq (.region [⟨(some 163), none, (.load true 3), [.tm 3]⟩,
  ⟨(some 164), none, .mov, [.tm 4]⟩,
  ⟨(some 165), none, .mov, [.tm 15]⟩,
  ⟨(some 166), none, (.call 9), [.tm 163, .tm 164, .tm 165]⟩,
  ⟨(some 162), none, .mov, [.tm 166]⟩,
  ⟨(some 167), none, (.ext 0), [.tm 162]⟩,
  ⟨(some 168), none, (.ext 1), [.tm 162]⟩,
  ⟨(some 16), none, (.alloc [(.int .i64 0), (.int .i64 0)]), []⟩,
  ⟨none, none, (.store 2), [.tm 16, .tm 167]⟩,
  ⟨(some 17), none, .mov, [.tm 168]⟩])
 (.seq (.seq (.region [⟨(some 169), none, .mov, [.tm 17]⟩,
  ⟨(some 170), none, (.cmp .neq), [.tm 169, .cn (.int .i64 0)]⟩,
  ⟨(some 171), none, .mov, [.tm 170]⟩,
  ⟨(some 172), (some (171, false)), (.fieldAddr 0), [.tm 16]⟩,
  ⟨(some 173), (some (171, false)), (.load false 1), [.tm 172]⟩,
  ⟨(some 174), (some (171, false)), .mov, [.tm 6]⟩,
  ⟨(some 175), (some (171, false)), (.cmp .lss), [.tm 173, .tm 174]⟩,
  ⟨(some 176), none, .or, [.tm 171, .tm 175]⟩])
 (.cond (.tm 176) (.seq (.region [⟨(some 2), none, .mov, [.cn (.bool false)]⟩])
 .ret)
  .skip))
 (.seq (.region [⟨(some 178), none, (.load true 3), [.tm 3]⟩,
  ⟨(some 179), none, .mov, [.tm 4]⟩,
  ⟨(some 180), none, .mov, [.tm 15]⟩,
  ⟨(some 181), none, (.ari .sub), [.tm 180, .cn (.int .i64 1)]⟩,
  ⟨(some 182), none, .max, [.tm 181, .cn (.int .i64 0)]⟩,
  ⟨(some 183), none, (.call 9), [.tm 178, .tm 179, .tm 182]⟩,
  ⟨(some 177), none, .mov, [.tm 183]⟩,
  ⟨(some 184), none, (.ext 0), [.tm 177]⟩,
  ⟨(some 185), none, (.ext 1), [.tm 177]⟩,
  ⟨(some 18), none, (.alloc [(.int .i64 0), (.int .i64 0)]), []⟩,
  ⟨none, none, (.store 2), [.tm 18, .tm 184]⟩,
  ⟨(some 17), none, .mov, [.tm 185]⟩])
 (.seq (.region [⟨(some 186), none, .mov, [.tm 17]⟩,
  ⟨(some 187), none, (.cmp .neq), [.tm 186, .cn (.int .i64 0)]⟩,
  ⟨(some 188), none, .mov, [.tm 187]⟩,
  ⟨(some 189), (some (188, false)), .mov, [.tm 15]⟩,
  ⟨(some 190), (some (188, false)), (.cmp .gtr), [.tm 189, .cn (.int .i64 0)]⟩,
  ⟨(some 191), (some (188, false)), .mov, [.tm 190]⟩,
  ⟨(some 192), (some (191, true)), (.fieldAddr 0), [.tm 18]⟩,
  ⟨(some 193), (some (191, true)), (.load false 1), [.tm 192]⟩,
  ⟨(some 194), (some (191, true)), .mov, [.tm 6]⟩,
  ⟨(some 195), (some (191, true)), (.cmp .geq), [.tm 193, .tm 194]⟩,
  ⟨(some 196), (some (188, false)), .and, [.tm 191, .tm 195]⟩,
  ⟨(some 197), none, .or, [.tm 188, .tm 196]⟩])
 (.cond (.tm 197) (.seq (.region [⟨(some 2), none, .mov, [.cn (.bool false)]⟩])
 .ret)
  .skip)))))
  (.seq (.region [⟨(some 199), none, (.load true 3), [.tm 3]⟩,
  ⟨(some 200), none, .mov, [.tm 4]⟩,
  ⟨(some 201), none, (.call 9), [.tm 199, .tm 200, .cn (.int .i64 50000)]⟩,
  ⟨(some 198), none, .mov, [.tm 201]⟩,
  ⟨(some 202), none, (.ext 0), [.tm 198]⟩,
  ⟨(some 203), none, (.ext 1), [.tm 198]⟩,
  ⟨(some 19), none, (.alloc [(.int .i64 0), (.int .i64 0)]), []⟩,
  ⟨none, none, (.store 2), [.tm 19, .tm 202]⟩,
  ⟨(some 20), none, .mov, [.tm 203]⟩])
 (.seq (.region [⟨(some 204), none, .mov, [.tm 8]⟩,
  ⟨(some 205), none, (.cmp .neq), [.tm 204, .cn (.int .i64 7)]⟩,
  ⟨(some 206), none, .mov, [.tm 205]⟩,
  ⟨(some 207), (some (206, false)), .mov, [.tm 20]⟩,
  ⟨(some 208), (some (206, false)), (.cmp .neq), [.tm 207, .cn (.int .i64 0)]⟩,
  ⟨(some 209), none, .or, [.tm 206, .tm 208]⟩,
  ⟨(some 210), none, .mov, [.tm 209]⟩,
  ⟨(some 211), (some (210, false)), (.fieldAddr 0), [.tm 19]⟩,
  ⟨(some 212), (some (210, false)), (.load false 1), [.tm 211]⟩,
  ⟨(some 213), (some (210, false)), .mov, [.tm 6]⟩,
  ⟨(some 214), (some (210, false)), (.cmp .geq), [.tm 212, .tm 213]⟩,
  ⟨(some 215), none, .or, [.tm 210, .tm 214]⟩])
 (.cond (.tm 215) (.seq (.region [⟨(some 2), none, .mov, [.cn (.bool false)]⟩])
 .ret)
  .skip)))))
 (.seq (.region [⟨(some 217), none, (.load true 3), [.tm 3]⟩,
  ⟨(some 218), none, (.buildSlice 3 1 [.nil, (.int .i64 0), (.int .i64 0)] [(0, 3)]), [.tm 217]⟩,
  ⟨(some 219), none, .mov, [.tm 5]⟩,
  ⟨(some 220), none, .mov, [.tm 6]⟩,
  ⟨(some 221), none, (.call 16), [.tm 218, .tm 219, .tm 220]⟩,
  ⟨(some 216), none, .mov, [.tm 221]⟩,
  ⟨(some 222), none, (.ext 0), [.tm 216]⟩,
  ⟨(some 223), none, (.ext 1), [.tm 216]⟩,
  ⟨(some 21), none, .mov, [.tm 222]⟩,
  ⟨(some 8), none, .mov, [.tm 223]⟩])
 (.seq (.seq (.region [⟨(some 224), none, .mov, [.tm 8]⟩,
  ⟨(some 225), none, (.cmp .neq), [.tm 224, .cn (.int .i64 0)]⟩])
 (.cond (.tm 225) (.seq (.region [⟨(some 227), none, (.load true 3), [.tm 3]⟩,
  ⟨(some 228), none, .mov, [.tm 5]⟩,
  ⟨(some 229), none, (.call 9), [.tm 227, .cn (.int .i64 100), .tm 228]⟩,
  ⟨(some 226), none, .mov, [.tm 229]⟩,
  ⟨(some 230), none, (.ext 0), [.tm 226]⟩,
  ⟨(some 231), none, (.ext 1), [.tm 226]⟩,
  ⟨(some 22), none, (.alloc [(.int .i64 0), (.int .i64 0)]), []⟩,
  ⟨none, none, (.store 2), [.tm 22, .tm 230]⟩,
  ⟨(some 23), none, .mov, [.tm 231]⟩])
 (.seq (.region [⟨(some 232), none, .mov, [.tm 8]⟩,
  ⟨(some 233), none, (.cmp .eql), [.tm 232, .cn (.int .i64 7)]⟩,
  ⟨(some 234), none, .mov, [.tm 233]⟩,
  ⟨(some 235), (some (234, true)), .mov, [.tm 23]⟩,
  ⟨(some 236), (some (234, true)), (.cmp .eql), [.tm 235, .cn (.int .i64 0)]⟩,
  ⟨(some 237), none, .and, [.tm 234, .tm 236]⟩,
  ⟨(some 238), none, .mov, [.tm 237]⟩,
  ⟨(some 239), (some (238, true)), (.fieldAddr 0), [.tm 22]⟩,
  ⟨(some 240), (some (238, true)), (.load false 1), [.tm 239]⟩,
  ⟨(some 241), (some (238, true)), .mov, [.tm 6]⟩,
  ⟨(some 242), (some (238, true)), (.cmp .lss), [.tm 240, .tm 241]⟩,
  ⟨(some 243), none, .and, [.tm 238, .tm 242]⟩,
  ⟨(some 244), none, .mov, [.tm 243]⟩,
  ⟨(some 245), (some (244, true)), (.call 8), []⟩,
  ⟨(some 246), none, .and, [.tm 244, .tm 245]⟩,
  ⟨(some 2), none, .mov, [.tm 246]⟩])
 .ret))
  .skip))
 (.seq (.seq (.region [⟨(some 247), none, .mov, [.tm 21]⟩,
  ⟨(some 248), none, .len, [.tm 247]⟩,
  ⟨(some 249), none, (.cmp .neq), [.tm 248, .cn (.int .i64 1)]⟩,
  ⟨(some 250), none, .mov, [.tm 249]⟩,
  ⟨(some 251), (some (250, false)), .mov, [.tm 21]⟩,
  ⟨(some 252), (some (250, false)), (.idxAddr 1), [.tm 251, .cn (.int .i64 0)]⟩,
  ⟨(some 253), (some (250, false)), (.load false 1), [.tm 252]⟩,
  ⟨(some 254), (some (250, false)), (.cmp .lss), [.tm 253, .cn (.int .i64 0)]⟩,
  ⟨(some 255), none, .or, [.tm 250, .tm 254]⟩,
  ⟨(some 256), none, .mov, [.tm 255]⟩,
  ⟨(some 257), (some (256, false)), .mov, [.tm 21]⟩,
  ⟨(some 258), (some (256, false)), (.idxAddr 1), [.tm 257, .cn (.int .i64 0)]⟩,
  ⟨(some 259), (some (256, false)), (.load false 1), [.tm 258]⟩,
  ⟨(some 260), (some (256, false)), (.cmp .gtr), [.tm 259, .cn (.int .i64 100)]⟩,
  ⟨(some 261), none, .or, [.tm 256, .tm 260]⟩])
 (.cond (.tm 261) (.seq (.region [⟨(some 2), none, .mov, [.cn (.bool false)]⟩])
 .ret)
  .skip))
 (.seq (.draw [(24, [(.int .i64 0), (.int .i64 0)])] [⟨⟨(some 263), none, (.load true 3), [.tm 3]⟩, []⟩,
  ⟨⟨(some 264), none, .mov, [.tm 21]⟩, []⟩,
  ⟨⟨(some 265), none, (.idxAddr 1), [.tm 264, .cn (.int .i64 0)]⟩, []⟩,
  ⟨⟨(some 266), none, (.load false 1), [.tm 265]⟩, []⟩,
  ⟨⟨(some 267), none, .mov, [.tm 5]⟩, []⟩,
  ⟨⟨(some 268), none, (.call 9), [.tm 263, .tm 266, .tm 267]⟩, []⟩,
  ⟨⟨(some 262), none, .mov, [.tm 268]⟩, []⟩,
  ⟨⟨(some 269), none, (.ext 0), [.tm 262]⟩, []⟩,
  ⟨⟨(some 270), none, (.ext 1), [.tm 262]⟩, []⟩,
  ⟨⟨none, none, (.store 2), [.tm 24, .tm 269]⟩, []⟩,
  ⟨⟨(some 8), none, .mov, [.tm 270]⟩, []⟩])
 (.seq (.draw [(25, [(.int .i64 0), (.int .i64 0)])] [⟨⟨(some 272), none, (.load true 3), [.tm 3]⟩, []⟩,
  ⟨⟨(some 273), none, .mov, [.tm 21]⟩, []⟩,
  ⟨⟨(some 274), none, (.idxAddr 1), [.tm 273, .cn (.int .i64 0)]⟩, []⟩,
  ⟨⟨(some 275), none, (.load false 1), [.tm 274]⟩, []⟩,
  ⟨⟨(some 276), none, (.ari .sub), [.tm 275, .cn (.int .i64 1)]⟩, []⟩,
  ⟨⟨(some 277), none, .max, [.tm 276, .cn (.int .i64 0)]⟩, []⟩,
  ⟨⟨(some 278), none, .mov, [.tm 5]⟩, []⟩,
  ⟨⟨(some 279), none, (.call 9), [.tm 272, .tm 277, .tm 278]⟩, []⟩,
  ⟨⟨(some 271), none, .mov, [.tm 279]⟩, []⟩,
  ⟨⟨(some 280), none, (.ext 0), [.tm 271]⟩, []⟩,
  ⟨⟨(some 281), none, (.ext 1), [.tm 271]⟩, []⟩,
  ⟨⟨none, none, (.store 2), [.tm 25, .tm 280]⟩, []⟩,
  ⟨⟨(some 10), none, .mov, [.tm 281]⟩, []⟩])
 (.seq (.region [⟨(some 282), none, .mov, [.tm 8]⟩,
  ⟨(some 283), none, (.cmp .eql), [.tm 282, .cn (.int .i64 0)]⟩,
  ⟨(some 284), none, .mov, [.tm 283]⟩,
  ⟨(some 285), (some (284, true)), .mov, [.tm 10]⟩,
  ⟨(some 286), (some (284, true)), (.cmp .eql), [.tm 285, .cn (.int .i64 0)]⟩,
  ⟨(some 287), none, .and, [.tm 284, .tm 286]⟩,
  ⟨(some 288), none, .mov, [.tm 287]⟩,
  ⟨(some 289), (some (288, true)), (.fieldAddr 0), [.tm 24]⟩,
  ⟨(some 290), (some (288, true)), (.load false 1), [.tm 289]⟩,
  ⟨(some 291), (some (288, true)), .mov, [.tm 6]⟩,
  ⟨(some 292), (some (288, true)), (.cmp .geq), [.tm 290, .tm 291]⟩,
  ⟨(some 293), none, .and, [.tm 288, .tm 292]⟩,
  ⟨(some 294), none, .mov, [.tm 293]⟩,
  ⟨(some 295), (some (294, true)), .mov, [.tm 21]⟩,
  ⟨(some 296), (some (294, true)), (.idxAddr 1), [.tm 295, .cn (.int .i64 0)]⟩,
  ⟨(some 297), (some (294, true)), (.load false 1), [.tm 296]⟩,
  ⟨(some 298), (some (294, true)), (.cmp .eql), [.tm 297, .cn (.int .i64 0)]⟩,
  ⟨(some 299), (some (294, true)), .mov, [.tm 298]⟩,
  ⟨(some 300), (some (299, false)), (.fieldAddr 0), [.tm 25]⟩,
  ⟨(some 301), (some (299, false)), (.load false 1), [.tm 300]⟩,
  ⟨(some 302), (some (299, false)), .mov, [.tm 6]⟩,
  ⟨(some 303), (some (299, false)), (.cmp .lss), [.tm 301, .tm 302]⟩,
  ⟨(some 304), (some (294, true)), .or, [.tm 299, .tm 303]⟩,
  ⟨(some 305), none, .and, [.tm 294, .tm 304]⟩,
  ⟨(some 306), none, .mov, [.tm 305]⟩,
  ⟨(some 307), (some (306, true)), (.call 8), []⟩,
  ⟨(some 308), none, .and, [.tm 306, .tm 307]⟩,
  ⟨(some 2), none, .mov, [.tm 308]⟩])
 .ret)))))))))))))))) }
theorem v5_is : vfunc Try.prog Try.f5 = some v5 := by kernel_rfl


def shTurned : List Sh := [.slice shPart, .int .i64, .int .i64, .int .i64, .int .i64, .int .i64]
def lawI : List PSh := [⟨true, shTurned⟩]

theorem turned_of {c : List SV} (h : okSL shTurned c) : ∃ (ch : Chain) (turns key opn : Int), leXL c (encC ch ++ [.int .i64 turns, .int .i64 key, .int .i64 opn]) ∧ ch.parts.length ≤ maxLen := by
  obtain ⟨_, _, rfl, ⟨z, n, get, rfl, hn, hg⟩, e1⟩ := okSL_cons_inv h
  obtain ⟨_, _, rfl, ⟨n2, rfl, _⟩, e2⟩ := okSL_cons_inv e1
  obtain ⟨_, _, rfl, ⟨n3, rfl, _⟩, e3⟩ := okSL_cons_inv e2
  obtain ⟨_, _, rfl, ⟨n4, rfl, _⟩, e4⟩ := okSL_cons_inv e3
  obtain ⟨_, _, rfl, ⟨n5, rfl, _⟩, e5⟩ := okSL_cons_inv e4
  obtain ⟨_, _, rfl, ⟨n6, rfl, _⟩, e6⟩ := okSL_cons_inv e5
  cases okSL_nil_inv e6
  obtain ⟨l, hl, hp⟩ := list_of (P := fun k p => get k = enc p) fun k hk => part_of (hg k hk)
  refine ⟨⟨z, l, n2, n3⟩, n4, n5, n6, ?_, by rw [hl]; exact hn⟩
  exact ⟨⟨fun h => h, rfl, hl.symm, rfl, fun k hk => by rw [hp k hk]; exact leXL_self _⟩, ⟨rfl, rfl⟩, ⟨rfl, rfl⟩, ⟨rfl, rfl⟩, ⟨rfl, rfl⟩, ⟨rfl, rfl⟩, trivial⟩

theorem lawRise : (lawC lawI).ok Try.prog 5 := by
  refine contract Try.func5 v5_is L1_ok 2000 (lawC lawI) fun args k h => ?_
  obtain ⟨ha, hk⟩ := h
  obtain ⟨_, _, rfl, h1, e1⟩ := okPL_cons_inv ha
  obtain ⟨cs, rfl, hcs⟩ := okP_agg_inv h1
  cases okPL_nil_inv e1
  obtain ⟨⟨z, l, p, t⟩, turns, x, y, hle, hmax⟩ := turned_of hcs
  refine ⟨[.agg [.vs false z l.length 4 (fun j => enc (l.getD j default)), .int .i64 p, .int .i64 t, .int .i64 turns, .int .i64 x, .int .i64 y]], ⟨leXL_le _ _ hle (by simp only [encC, List.cons_append, List.nil_append, bndL_cons, bndL_nil, bnd_vs, bnd_int, and_self]), trivial⟩, ?_⟩
  dsimp only [v5, L1_ct8, trueC, L1_ct9, L1_ct10, TravC, ch3C, L1_ct11, L1_ct12, NeedC, L1_ct13, L1_ct14, chkC, chC, L1_ct16, regC, encC, enc, enc1, r_end, r_end1, r_nil, r_op, r_opg, r_runOp, r_op0, r_yld0, r_yld1, r_y, r_rbeg, r_rend, r_rend1, r_rfrm, r_rfrm1, r_range, r_rangeK, r_rangeE, r_draw, r_dnil, r_dop, r_dopg, r_dplq, r_dplh, r_dq, r_dq0, r_dcl1, r_dcl0, r_dct1, r_dct0, r_dgd, r_dgq1, r_dgq0, r_dctG, r_op1, r_eff, r_eff0, r_call, r_call0, r_inl, r_g, r_gq, r_gc, r_effg, r_effg0, r_callg, r_callg0, r_fin, r_pre, r_imp, r_all, r_ex, r_fing, r_preg, r_exg, r_inBlock, r_inLoop, r_frame, r_frame1, r_skip, r_region, r_seq, r_cond, r_cond1, r_block, r_exit, r_exit1, r_exit2, r_ret, r_loop, s_args0, s_args1, s_xt, s_xc, padL, blankL, callee, callArgs, eff, ctOf, getL, setL, S.put, S.upd, unopts, unopt, unoptsO, unoptsB, lazyO, guardOf, gbool, eMov, eNot, eNeg, eConv, eExt, eLenArr, eLen, eLenStr, eEqb, eEqv, allEq, eNil, negIf, eBool2, eCmp, eAri, ari, eBit, eDiv, eSh, eMinMax, foldMin, foldMax, kEq, pure1, cmpB, VO.quiet, resVals, resVal, tupled, popRet, popTo, cond, Option.bind, Option.map, eNew, eBox, asCells, lenH, snocH, eFieldAddr, eField, eLoad, cellsAt, getH, setH, dropL, takeL, mkAgg, lenL, lenS, shift, shiftL, shiftH, viewN, viewL, view, andT, junks, List.append_nil, Nat.beq, eIdxAddr, eIdxArr, eIndex, eStore, storeAt, spliceL, ones, one, eSlice, eSliceArr, bounds, subLo, addLo, eMake, eAppend, readS, repL, buildCells, chunk, purgeL, purgeLL, purgeH, purge, refs, refsL, List.cons_append, List.nil_append, wrOps, wrAl, wrDops, wrC, junkAt, putAll, putHs, headOf, headK, keepG, List.append_eq, headX, chkP, apartP, apartB, blk, strip, runAl, yld, putPs, lenN, findR, notRound, jumpK, jumpPT, jcode, List.map_cons, List.map_nil, ite_self, reduceIte]
  simp only [true_and, and_true, imp_self, implies_true, decide_eq_true_eq, decide_eq_false_iff_not, Nat.reduceAdd, Nat.reduceLeDiff, Bool.not_not, reduceCtorEq, false_imp_iff, Bool.not_eq_true', Bool.not_eq_false', Bool.false_eq_true, and_self, forall_const, ne_eq, not_false_eq_true, Nat.reduceEqDiff]
  have key : l.length = l.length ∧ ∀ k : Nat, k < l.length → [SV.int .i64 (l.getD k default).num, SV.int .i64 (l.getD k default).den, SV.int .i64 (l.getD k default).play, SV.int .i64 (l.getD k default).weight] = [SV.int .i64 (l.getD k default).num, SV.int .i64 (l.getD k default).den, SV.int .i64 (l.getD k default).play, SV.int .i64 (l.getD k default).weight] := ⟨rfl, fun _ _ => rfl⟩
  refine ⟨l, key, fun _ => ans_bool hk, fun hb => ?_⟩
  simp only [Bool.or_eq_false_iff, Bool.not_eq_false', decide_eq_true_eq, decide_eq_false_iff_not] at hb
  obtain ⟨⟨⟨⟨⟨⟨hc, b1⟩, b2⟩, b3⟩, b4⟩, b5⟩, b6⟩ := hb
  have w1 : IntKind.i64.wrap (x + 1) = x + 1 := w6_in (by omega) (by omega)
  have w2 : IntKind.i64.wrap (turns + 1) = turns + 1 := w6_in (by omega) (by omega)
  have hu : 0 ≤ turns ∧ turns ≤ 100 := by omega
  have hx : 0 ≤ x ∧ x ≤ 50000 := by omega
  have hy : 0 ≤ y ∧ y ≤ 50000 := by omega
  have k1 := trav_key hc hu (k := x) (j := x + 1) hx.1 (by omega) (by omega)
  have k2 := trav_turn hc (u := turns) (v := turns + 1) hu.1 (by omega) (by omega) hx
  have k3 := trav_zero hc hu
  have k4 := trav_near hc hu hx
  have a1 := asked_of hc hu hx
  have a2 := asked_of hc hu (k := x + 1) (by omega)
  have a3 := asked_of hc (u := turns + 1) (by omega) hx
  have a4 := asked_of hc hu (k := 0) (by omega)
  have w3 : IntKind.i64.wrap (travLo l p t turns x + 1) = travLo l p t turns x + 1 := w6_in (by omega) (by omega)
  rw [w1, w2]
  refine ⟨l, key, by decide, by decide, l, key, by decide, by decide, l, key, by decide, by decide, l, key, by decide, by decide, fun h => ?_, fun _ => ?_⟩
  · exfalso
    rw [w3, a1, a2, a3, a4, k3.1, k3.2] at h
    simp only [Bool.or_eq_true, Bool.not_eq_true', decide_eq_true_eq, decide_eq_false_iff_not, decide_true, Bool.and_self, Bool.not_true, Bool.false_eq_true, not_true_eq_false, false_or, or_false] at h
    omega
  refine ⟨l, key, by decide, by decide, ?_⟩
  rcases need_ok hc hu hy with ⟨n0, n1, n2, n3, n4⟩ | ⟨n0, n1⟩
  · refine ⟨fun _ => ?_, fun h => absurd n0 h⟩
    have w4 : IntKind.i64.wrap ((needF l p t turns y).1 - 1) = (needF l p t turns y).1 - 1 := w6_in (by omega) (by omega)
    have b1 := asked_of hc hu (k := (needF l p t turns y).1) (by omega)
    have b2 := asked_of hc hu (k := max ((needF l p t turns y).1 - 1) 0) (by omega)
    rw [w4]
    refine ⟨l, key, by decide, by decide, fun h => ?_, fun _ => ⟨l, key, by decide, by decide, ?_, fun h => ?_, fun _ => ?_⟩⟩
    · exfalso
      rw [b1] at h
      simp only [Bool.or_eq_true, Bool.not_eq_true', decide_eq_true_eq, decide_eq_false_iff_not, decide_true, Bool.not_true, Bool.false_eq_true, not_true_eq_false, false_or, or_false] at h
      omega
    · intro h1 h2; rw [h1]; simpa using h2
    · exfalso
      rw [b2] at h
      simp only [Bool.or_eq_true, Bool.and_eq_true, Bool.not_eq_true', decide_eq_true_eq, decide_eq_false_iff_not, decide_true, Bool.not_true, Bool.false_eq_true, not_true_eq_false, false_or, or_false] at h
      have := n4 h.1
      rw [Int.max_eq_left (by omega)] at h
      omega
    refine ⟨by decide, [⟨z, l, p, t⟩], ⟨rfl, rfl, fun k hk => ?_⟩, by decide, by decide, ?_⟩
    · match k, hk with
      | 0, _ => exact leXL_self _
    · rcases reg_one (c := ⟨z, l, p, t⟩) hc hx hy with ⟨n, hn, e, g1, g2⟩ | ⟨e, g1⟩
      · simp only at g1 g2
        refine ⟨fun h => absurd h (by rw [e]; simp), fun _ => ?_⟩
        simp only [e, List.length_singleton, List.getD_cons_zero, Int.toNat_zero]
        have w6 : IntKind.i64.wrap ((n : Int) - 1) = (n : Int) - 1 := w6_in (by omega) (by omega)
        have a5 := asked_of hc (u := (n : Int)) (by omega) hx
        have a6 := asked_of hc (u := max ((n : Int) - 1) 0) (by omega) hx
        refine ⟨fun _ => by decide, fun _ => by decide, fun h => ?_, fun _ => ?_⟩
        · exfalso
          simp only [Bool.or_eq_true, Bool.not_eq_true', decide_eq_true_eq, decide_eq_false_iff_not] at h
          omega
        · refine ⟨by decide, l, key, by decide, by decide, by decide, l, key, by decide, by decide, ?_⟩
          rw [w6, a5, a6]
          refine ⟨fun _ => by decide, fun _ h => ?_, ans_bool ?_⟩
          · simpa [g1] using h
          · have hk' : k (.bool true) [] := hk
            by_cases h0 : n = 0
            · have g3 : y ≤ travLo l p t 0 x := by simpa [h0] using g1
              simpa [g3, h0] using hk'
            · rw [Int.max_eq_left (by omega)]
              simpa [g1, g2 (by omega)] using hk'
      · simp only at g1
        refine ⟨fun _ => ⟨l, key, by decide, by decide, ans_bool ?_⟩, fun h => absurd h (by rw [e]; simp)⟩
        have hk' : k (.bool true) [] := hk
        rw [e, asked_of hc (u := 100) (by omega) hx]
        simpa [g1] using hk'
  · refine ⟨fun h => absurd h (by rw [n0]; simp), fun _ => ?_⟩
    have b1 := asked_of hc hu (k := 50000) (by omega)
    refine ⟨l, key, by decide, by decide, fun h => ?_, fun _ => ?_⟩
    · exfalso
      rw [b1, n0] at h
      simp only [Bool.or_eq_true, Bool.not_eq_true', decide_eq_true_eq, decide_eq_false_iff_not, decide_true, Bool.not_true, Bool.false_eq_true, not_true_eq_false, false_or, or_false] at h
      omega
    refine ⟨by decide, [⟨z, l, p, t⟩], ⟨rfl, rfl, fun k hk => ?_⟩, by decide, by decide, ?_⟩
    · match k, hk with
      | 0, _ => exact leXL_self _
    · rcases reg_one (c := ⟨z, l, p, t⟩) hc hx hy with ⟨n, hn, e, g1, g2⟩ | ⟨e, g1⟩
      · simp only at g1 g2
        refine ⟨fun h => absurd h (by rw [e]; simp), fun _ => ?_⟩
        simp only [e, List.length_singleton, List.getD_cons_zero, Int.toNat_zero]
        have w6 : IntKind.i64.wrap ((n : Int) - 1) = (n : Int) - 1 := w6_in (by omega) (by omega)
        have a5 := asked_of hc (u := (n : Int)) (by omega) hx
        have a6 := asked_of hc (u := max ((n : Int) - 1) 0) (by omega) hx
        refine ⟨fun _ => by decide, fun _ => by decide, fun h => ?_, fun _ => ?_⟩
        · exfalso
          simp only [Bool.or_eq_true, Bool.not_eq_true', decide_eq_true_eq, decide_eq_false_iff_not] at h
          omega
        · refine ⟨by decide, l, key, by decide, by decide, by decide, l, key, by decide, by decide, ?_⟩
          rw [w6, a5, a6]
          refine ⟨fun _ => by decide, fun _ h => ?_, ans_bool ?_⟩
          · simpa [g1] using h
          · have hk' : k (.bool true) [] := hk
            by_cases h0 : n = 0
            · have g3 : y ≤ travLo l p t 0 x := by simpa [h0] using g1
              simpa [g3, h0] using hk'
            · rw [Int.max_eq_left (by omega)]
              simpa [g1, g2 (by omega)] using hk'
      · simp only at g1
        refine ⟨fun _ => ⟨l, key, by decide, by decide, ans_bool ?_⟩, fun h => absurd h (by rw [e]; simp)⟩
        have hk' : k (.bool true) [] := hk
        rw [e, asked_of hc (u := 100) (by omega) hx]
        simpa [g1] using hk'
end Go.Proofs.Ytmhlinndhmdjlaa
