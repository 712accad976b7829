/- Lengths, walked: the reference's Check, the law LengthsRise. -/
import Derived.Test.YtijadllhfgajlaaMgX2f
import Derived.Test.YtijadllhfgajlaaRows
set_option linter.all false
namespace Go.Proofs.Ytijadllhfgajlaa
open Go Go.Vx
set_option maxRecDepth 100000
set_option maxHeartbeats 4000000
def v9 : VF := { ntmps := 63, res := [.tmp 2], body :=
 (.seq (.region [u1 1 .box [.tm 0],
 u1 2 .mov [.cn (.int .i64 0)]])
 (.seq (.seq (.region [u1 3 (.fieldAddr 0) [.tm 1],
 u1 4 (.load false 1) [.tm 3],
 u1 5 (.cmp .lss) [.tm 4, .cn (.int .i64 1)],
 u1 6 .mov [.tm 5],
 u2 7 6 false (.fieldAddr 0) [.tm 1],
 u2 8 6 false (.load false 1) [.tm 7],
 u2 9 6 false (.cmp .gtr) [.tm 8, .cn (.int .i64 3)],
 u1 10 .or [.tm 6, .tm 9],
 u1 11 .mov [.tm 10],
 u2 12 11 false (.fieldAddr 1) [.tm 1],
 u2 13 11 false (.load false 1) [.tm 12],
 u2 14 11 false (.call 19) [.tm 13, .cn (.int .i64 1000), .cn (.int .i64 500000)],
 u2 15 11 false .not [.tm 14],
 u1 16 .or [.tm 11, .tm 15],
 u1 17 .mov [.tm 16],
 u2 18 17 false (.fieldAddr 2) [.tm 1],
 u2 19 17 false (.load false 1) [.tm 18],
 u2 20 17 false (.call 19) [.tm 19, .cn (.int .i64 1000), .cn (.int .i64 500000)],
 u2 21 17 false .not [.tm 20],
 u1 22 .or [.tm 17, .tm 21]])
 (.cond (.tm 22) (.seq (.region [u1 2 .mov [.cn (.int .i64 2)]])
 .ret)
  .skip))
 (.seq (.seq (.region [u1 23 (.fieldAddr 0) [.tm 1],
 u1 24 (.load false 1) [.tm 23],
 u1 25 (.cmp .eql) [.tm 24, .cn (.int .i64 3)],
 u1 26 .mov [.tm 25],
 u2 27 26 true (.fieldAddr 2) [.tm 1],
 u2 28 26 true (.load false 1) [.tm 27],
 u2 29 26 true (.fieldAddr 1) [.tm 1],
 u2 30 26 true (.load false 1) [.tm 29],
 u2 31 26 true (.cmp .geq) [.tm 28, .tm 30],
 u1 32 .and [.tm 26, .tm 31],
 u1 33 .mov [.tm 32],
 u2 34 33 false (.fieldAddr 0) [.tm 1],
 u2 35 33 false (.load false 1) [.tm 34],
 u2 36 33 false (.cmp .neq) [.tm 35, .cn (.int .i64 3)],
 u2 37 33 false .mov [.tm 36],
 u2 38 37 true (.fieldAddr 2) [.tm 1],
 u2 39 37 true (.load false 1) [.tm 38],
 u2 40 37 true (.fieldAddr 1) [.tm 1],
 u2 41 37 true (.load false 1) [.tm 40],
 u2 42 37 true (.cmp .neq) [.tm 39, .tm 41],
 u2 43 33 false .and [.tm 37, .tm 42],
 u1 44 .or [.tm 33, .tm 43],
 u1 45 .mov [.tm 44],
 u2 46 45 false (.fieldAddr 3) [.tm 1],
 u2 47 45 false (.load false 1) [.tm 46],
 u2 48 45 false (.fieldAddr 1) [.tm 1],
 u2 49 45 false (.load false 1) [.tm 48],
 u2 50 45 false (.ari .mul) [.cn (.int .i64 4), .tm 49],
 u2 51 45 false (.call 19) [.tm 47, .cn (.int .i64 1), .tm 50],
 u2 52 45 false .not [.tm 51],
 u1 53 .or [.tm 45, .tm 52],
 u1 54 .mov [.tm 53],
 u2 55 54 false (.fieldAddr 4) [.tm 1],
 u2 56 54 false (.load false 1) [.tm 55],
 u2 57 54 false (.fieldAddr 1) [.tm 1],
 u2 58 54 false (.load false 1) [.tm 57],
 u2 59 54 false (.ari .mul) [.cn (.int .i64 4), .tm 58],
 u2 60 54 false (.call 19) [.tm 56, .cn (.int .i64 1), .tm 59],
 u2 61 54 false .not [.tm 60],
 u1 62 .or [.tm 54, .tm 61]])
 (.cond (.tm 62) (.seq (.region [u1 2 .mov [.cn (.int .i64 2)]])
 .ret)
  .skip))
 (.seq (.region [u1 2 .mov [.cn (.int .i64 0)]])
 .ret)))) }
theorem v9_is : vfunc Try.prog Try.f9 = some v9 := by kernel_rfl
def v19 : VF := { ntmps := 15, res := [.tmp 6], body :=
 (.seq (.region [u1 6 .mov [.cn (.bool false)]])
 (.seq (.region [u1 7 .mov [.tm 0],
 u1 8 .mov [.tm 1],
 u1 9 (.cmp .geq) [.tm 7, .tm 8],
 u1 10 .mov [.tm 9],
 u2 11 10 true .mov [.tm 0],
 u2 12 10 true .mov [.tm 2],
 u2 13 10 true (.cmp .leq) [.tm 11, .tm 12],
 u1 14 .and [.tm 10, .tm 13],
 u1 6 .mov [.tm 14]])
 .ret)) }
theorem v19_is : vfunc Try.prog Try.f19 = some v19 := by kernel_rfl
def v4 : VF := { ntmps := 247, res := [.tmp 2], body :=
 (.seq (.region [u1 1 .box [.tm 0],
 u1 2 .mov [.cn (.bool false)]])
 (.seq (.draw [(3, .box [(.int .i64 0), (.int .i64 0), (.int .i64 0), (.int .i64 0), (.int .i64 0)]), (4, .box [(.int .i64 0), (.int .i64 0)])] [w1 18 (.fieldAddr 0) [.tm 1],
 w1 19 (.load true 5) [.tm 18],
 w1 20 (.fieldAddr 5) [.tm 1],
 w1 21 (.load true 2) [.tm 20],
 w1 22 (.fieldAddr 7) [.tm 1],
 w1 23 (.load false 1) [.tm 22],
 w1 24 (.fieldAddr 8) [.tm 1],
 w1 25 (.load false 1) [.tm 24],
 ⟨u0 (.store 5) [.tm 3, .tm 19], [.tm 20, .tm 22, .tm 24]⟩,
 ⟨u0 (.store 2) [.tm 4, .tm 21], [.tm 22, .tm 24]⟩,
 w1 5 .mov [.tm 23],
 w1 6 .mov [.tm 25]])
 (.seq (.seq (.region [u1 26 .mov [.tm 5],
 u1 27 (.cmp .lss) [.tm 26, .cn (.int .i64 (-20000))],
 u1 28 .mov [.tm 27],
 u2 29 28 false .mov [.tm 5],
 u2 30 28 false (.cmp .gtr) [.tm 29, .cn (.int .i64 50000)],
 u1 31 .or [.tm 28, .tm 30],
 u1 32 .mov [.tm 31],
 u2 33 32 false (.fieldAddr 0) [.tm 4],
 u2 34 32 false (.load false 1) [.tm 33],
 u2 35 32 false (.cmp .lss) [.tm 34, .cn (.int .i64 1)],
 u1 36 .or [.tm 32, .tm 35],
 u1 37 .mov [.tm 36],
 u2 38 37 false (.fieldAddr 1) [.tm 4],
 u2 39 37 false (.load false 1) [.tm 38],
 u2 40 37 false (.cmp .gtr) [.tm 39, .cn (.int .i64 20000000)],
 u1 41 .or [.tm 37, .tm 40],
 u1 42 .mov [.tm 41],
 u2 43 42 false (.fieldAddr 0) [.tm 4],
 u2 44 42 false (.load false 1) [.tm 43],
 u2 45 42 false (.fieldAddr 1) [.tm 4],
 u2 46 42 false (.load false 1) [.tm 45],
 u2 47 42 false (.cmp .gtr) [.tm 44, .tm 46],
 u1 48 .or [.tm 42, .tm 47],
 u1 49 .mov [.tm 48],
 u2 50 49 false (.load true 5) [.tm 3],
 u2 51 49 false (.call 9) [.tm 50],
 u2 52 49 false (.cmp .neq) [.tm 51, .cn (.int .i64 0)],
 u1 53 .or [.tm 49, .tm 52]])
 (.cond (.tm 53) (.seq (.region [u1 54 (.call 8) [],
 u1 2 .mov [.tm 54]])
 .ret)
  .skip))
 (.seq (.region [u1 55 .mov [.tm 5],
 u1 56 .mov [.tm 6],
 u1 57 (.conv .i64) [.tm 56],
 u1 58 (.ari .add) [.tm 55, .tm 57],
 u1 59 .min [.tm 58, .cn (.int .i64 50000)],
 u1 7 .mov [.tm 59]])
 (.seq (.region [u1 61 (.load true 5) [.tm 3],
 u1 62 (.load true 2) [.tm 4],
 u1 63 .mov [.tm 5],
 u1 64 (.call 5) [.tm 61, .tm 62, .tm 63],
 u1 60 .mov [.tm 64],
 u1 65 (.ext 0) [.tm 60],
 u1 66 (.ext 1) [.tm 60],
 u1 8 (.alloc [(.int .i64 0), (.int .i64 0)]) [],
 u0 (.store 2) [.tm 8, .tm 65],
 u1 9 .mov [.tm 66]])
 (.seq (.region [u1 68 (.load true 5) [.tm 3],
 u1 69 (.load true 2) [.tm 4],
 u1 70 .mov [.tm 7],
 u1 71 (.call 5) [.tm 68, .tm 69, .tm 70],
 u1 67 .mov [.tm 71],
 u1 72 (.ext 0) [.tm 67],
 u1 73 (.ext 1) [.tm 67],
 u1 10 (.alloc [(.int .i64 0), (.int .i64 0)]) [],
 u0 (.store 2) [.tm 10, .tm 72],
 u1 11 .mov [.tm 73]])
 (.seq (.seq (.region [u1 74 .mov [.tm 9],
 u1 75 (.cmp .eql) [.tm 74, .cn (.int .i64 0)],
 u1 76 .mov [.tm 75],
 u2 77 76 true .mov [.tm 11],
 u2 78 76 true (.cmp .eql) [.tm 77, .cn (.int .i64 0)],
 u1 79 .and [.tm 76, .tm 78],
 u1 80 .mov [.tm 79],
 u2 81 80 true (.fieldAddr 0) [.tm 10],
 u2 82 80 true (.load false 1) [.tm 81],
 u2 83 80 true (.fieldAddr 0) [.tm 8],
 u2 84 80 true (.load false 1) [.tm 83],
 u2 85 80 true (.cmp .lss) [.tm 82, .tm 84],
 u2 86 80 true .mov [.tm 85],
 u2 87 86 false (.fieldAddr 1) [.tm 10],
 u2 88 86 false (.load false 1) [.tm 87],
 u2 89 86 false (.fieldAddr 1) [.tm 8],
 u2 90 86 false (.load false 1) [.tm 89],
 u2 91 86 false (.cmp .lss) [.tm 88, .tm 90],
 u2 92 80 true .or [.tm 86, .tm 91],
 u1 93 .and [.tm 80, .tm 92]])
 (.cond (.tm 93) (.seq (.region [u1 2 .mov [.cn (.bool false)]])
 .ret)
  .skip))
 (.seq (.region [u1 95 (.load true 5) [.tm 3],
 u1 96 (.load true 2) [.tm 4],
 u1 97 .mov [.tm 5],
 u1 98 (.call 6) [.tm 95, .tm 96, .tm 97],
 u1 94 .mov [.tm 98],
 u1 99 (.ext 0) [.tm 94],
 u1 100 (.ext 1) [.tm 94],
 u1 12 (.alloc [(.int .i64 0), (.int .i64 0)]) [],
 u0 (.store 2) [.tm 12, .tm 99],
 u1 13 .mov [.tm 100]])
 (.seq (.region [u1 102 (.load true 5) [.tm 3],
 u1 103 (.load true 2) [.tm 4],
 u1 104 .mov [.tm 7],
 u1 105 (.call 6) [.tm 102, .tm 103, .tm 104],
 u1 101 .mov [.tm 105],
 u1 106 (.ext 0) [.tm 101],
 u1 107 (.ext 1) [.tm 101],
 u1 14 (.alloc [(.int .i64 0), (.int .i64 0)]) [],
 u0 (.store 2) [.tm 14, .tm 106],
 u1 15 .mov [.tm 107]])
 (.seq (.seq (.region [u1 108 .mov [.tm 13],
 u1 109 (.cmp .eql) [.tm 108, .cn (.int .i64 0)],
 u1 110 .mov [.tm 109],
 u2 111 110 true .mov [.tm 15],
 u2 112 110 true (.cmp .eql) [.tm 111, .cn (.int .i64 0)],
 u1 113 .and [.tm 110, .tm 112],
 u1 114 .mov [.tm 113],
 u2 115 114 true (.fieldAddr 0) [.tm 14],
 u2 116 114 true (.load false 1) [.tm 115],
 u2 117 114 true (.fieldAddr 0) [.tm 12],
 u2 118 114 true (.load false 1) [.tm 117],
 u2 119 114 true (.cmp .lss) [.tm 116, .tm 118],
 u2 120 114 true .mov [.tm 119],
 u2 121 120 false (.fieldAddr 1) [.tm 14],
 u2 122 120 false (.load false 1) [.tm 121],
 u2 123 120 false (.fieldAddr 1) [.tm 12],
 u2 124 120 false (.load false 1) [.tm 123],
 u2 125 120 false (.cmp .lss) [.tm 122, .tm 124],
 u2 126 114 true .or [.tm 120, .tm 125],
 u1 127 .and [.tm 114, .tm 126]])
 (.cond (.tm 127) (.seq (.region [u1 2 .mov [.cn (.bool false)]])
 .ret)
  .skip))
 (.seq (.region [u1 128 (.fieldAddr 0) [.tm 4],
 u1 129 (.load false 1) [.tm 128],
 u1 130 .mov [.tm 6],
 u1 131 (.conv .i64) [.tm 130],
 u1 132 (.ari .add) [.tm 129, .tm 131],
 u1 133 (.fieldAddr 1) [.tm 4],
 u1 134 (.load false 1) [.tm 133],
 u1 135 .mov [.tm 6],
 u1 136 (.conv .i64) [.tm 135],
 u1 137 (.ari .add) [.tm 134, .tm 136],
 u1 138 (.build [(.int .i64 0), (.int .i64 0)] [(0, 1), (1, 1)]) [.tm 132, .tm 137],
 u1 16 (.alloc [(.int .i64 0), (.int .i64 0)]) [],
 u0 (.store 2) [.tm 16, .tm 138]])
 (.seq (.region [u1 140 (.load true 5) [.tm 3],
 u1 141 (.load true 2) [.tm 16],
 u1 142 .mov [.tm 5],
 u1 143 (.call 5) [.tm 140, .tm 141, .tm 142],
 u1 139 .mov [.tm 143],
 u1 144 (.ext 0) [.tm 139],
 u1 145 (.ext 1) [.tm 139],
 u0 (.store 2) [.tm 10, .tm 144],
 u1 11 .mov [.tm 145]])
 (.seq (.region [u1 147 (.load true 5) [.tm 3],
 u1 148 (.load true 2) [.tm 16],
 u1 149 .mov [.tm 5],
 u1 150 (.call 6) [.tm 147, .tm 148, .tm 149],
 u1 146 .mov [.tm 150],
 u1 151 (.ext 0) [.tm 146],
 u1 152 (.ext 1) [.tm 146],
 u0 (.store 2) [.tm 14, .tm 151],
 u1 15 .mov [.tm 152]])
 (.seq (.seq (.region [u1 153 .mov [.tm 9],
 u1 154 (.cmp .eql) [.tm 153, .cn (.int .i64 0)],
 u1 155 .mov [.tm 154],
 u2 156 155 true .mov [.tm 11],
 u2 157 155 true (.cmp .eql) [.tm 156, .cn (.int .i64 0)],
 u1 158 .and [.tm 155, .tm 157],
 u1 159 .mov [.tm 158],
 u2 160 159 true (.fieldAddr 0) [.tm 10],
 u2 161 159 true (.load false 1) [.tm 160],
 u2 162 159 true (.fieldAddr 0) [.tm 8],
 u2 163 159 true (.load false 1) [.tm 162],
 u2 164 159 true (.cmp .gtr) [.tm 161, .tm 163],
 u2 165 159 true .mov [.tm 164],
 u2 166 165 false (.fieldAddr 1) [.tm 10],
 u2 167 165 false (.load false 1) [.tm 166],
 u2 168 165 false (.fieldAddr 1) [.tm 8],
 u2 169 165 false (.load false 1) [.tm 168],
 u2 170 165 false (.cmp .gtr) [.tm 167, .tm 169],
 u2 171 159 true .or [.tm 165, .tm 170],
 u1 172 .and [.tm 159, .tm 171],
 u1 173 .mov [.tm 172],
 u2 174 173 false .mov [.tm 13],
 u2 175 173 false (.cmp .eql) [.tm 174, .cn (.int .i64 0)],
 u2 176 173 false .mov [.tm 175],
 u2 177 176 true .mov [.tm 15],
 u2 178 176 true (.cmp .eql) [.tm 177, .cn (.int .i64 0)],
 u2 179 173 false .and [.tm 176, .tm 178],
 u2 180 173 false .mov [.tm 179],
 u2 181 180 true (.fieldAddr 0) [.tm 14],
 u2 182 180 true (.load false 1) [.tm 181],
 u2 183 180 true (.fieldAddr 0) [.tm 12],
 u2 184 180 true (.load false 1) [.tm 183],
 u2 185 180 true (.cmp .gtr) [.tm 182, .tm 184],
 u2 186 180 true .mov [.tm 185],
 u2 187 186 false (.fieldAddr 1) [.tm 14],
 u2 188 186 false (.load false 1) [.tm 187],
 u2 189 186 false (.fieldAddr 1) [.tm 12],
 u2 190 186 false (.load false 1) [.tm 189],
 u2 191 186 false (.cmp .gtr) [.tm 188, .tm 190],
 u2 192 180 true .or [.tm 186, .tm 191],
 u2 193 173 false .and [.tm 180, .tm 192],
 u1 194 .or [.tm 173, .tm 193]])
 (.cond (.tm 194) (.seq (.region [u1 2 .mov [.cn (.bool false)]])
 .ret)
  .skip))
 (.seq (.region [u1 195 (.fieldAddr 0) [.tm 4],
 u1 196 (.load false 1) [.tm 195],
 u1 197 (.fieldAddr 1) [.tm 4],
 u1 198 (.load false 1) [.tm 197],
 u1 199 (.fieldAddr 0) [.tm 4],
 u1 200 (.load false 1) [.tm 199],
 u1 201 (.ari .sub) [.tm 198, .tm 200],
 u1 202 .quo [.tm 201, .cn (.int .i64 2)],
 u1 203 (.ari .add) [.tm 196, .tm 202],
 u1 17 .mov [.tm 203]])
 (.seq (.draw [] [w1 205 (.load true 5) [.tm 3],
 w1 206 .mov [.tm 17],
 w1 208 .mov [.tm 5],
 w1 207 (.call 10) [.tm 206],
 w1 209 (.call 5) [.tm 205, .tm 207, .tm 208],
 w1 204 .mov [.tm 209],
 w1 210 (.ext 0) [.tm 204],
 w1 211 (.ext 1) [.tm 204],
 w0 (.store 2) [.tm 10, .tm 210],
 w1 11 .mov [.tm 211]])
 (.seq (.draw [] [w1 213 (.load true 5) [.tm 3],
 w1 214 .mov [.tm 17],
 w1 216 .mov [.tm 5],
 w1 215 (.call 10) [.tm 214],
 w1 217 (.call 6) [.tm 213, .tm 215, .tm 216],
 w1 212 .mov [.tm 217],
 w1 218 (.ext 0) [.tm 212],
 w1 219 (.ext 1) [.tm 212],
 w0 (.store 2) [.tm 14, .tm 218],
 w1 15 .mov [.tm 219]])
 (.seq (.seq (.region [u1 220 .mov [.tm 9],
 u1 221 (.cmp .eql) [.tm 220, .cn (.int .i64 0)],
 u1 222 .mov [.tm 221],
 u2 223 222 true .mov [.tm 11],
 u2 224 222 true (.cmp .neq) [.tm 223, .cn (.int .i64 0)],
 u2 225 222 true .mov [.tm 224],
 u2 226 225 false (.load true 2) [.tm 10],
 u2 227 225 false (.load true 2) [.tm 8],
 u2 228 225 false (.call 7) [.tm 226, .tm 227],
 u2 229 225 false .not [.tm 228],
 u2 230 222 true .or [.tm 225, .tm 229],
 u1 231 .and [.tm 222, .tm 230],
 u1 232 .mov [.tm 231],
 u2 233 232 false .mov [.tm 13],
 u2 234 232 false (.cmp .eql) [.tm 233, .cn (.int .i64 0)],
 u2 235 232 false .mov [.tm 234],
 u2 236 235 true .mov [.tm 15],
 u2 237 235 true (.cmp .neq) [.tm 236, .cn (.int .i64 0)],
 u2 238 235 true .mov [.tm 237],
 u2 239 238 false (.load true 2) [.tm 14],
 u2 240 238 false (.load true 2) [.tm 12],
 u2 241 238 false (.call 7) [.tm 239, .tm 240],
 u2 242 238 false .not [.tm 241],
 u2 243 235 true .or [.tm 238, .tm 242],
 u2 244 232 false .and [.tm 235, .tm 243],
 u1 245 .or [.tm 232, .tm 244]])
 (.cond (.tm 245) (.seq (.region [u1 2 .mov [.cn (.bool false)]])
 .ret)
  .skip))
 (.seq (.region [u1 246 (.call 8) [],
 u1 2 .mov [.tm 246]])
 .ret))))))))))))))))))) }
theorem v4_is : vfunc Try.prog Try.f4 = some v4 := by kernel_rfl
def L79 : Env := { ct := fun _ => none, fn := fun _ => none, meth := fun _ _ => none }
theorem L79_ok : EnvOk Try.prog L79 := by
  refine ⟨fun f c h => ?_, fun f vf h => ?_, (fun _ _ _ h => by cases h), by kernel_rfl, (fun _ h => by cases h)⟩
  · cases h
  · cases h
theorem rin_c : inC.ok Try.prog 19 := by
  refine contract Try.func19 v19_is L79_ok 100 inC fun args k h => ?_
  simp only [inC] at h
  split at h
  · rename_i n a b
    refine ⟨[.int .i64 n, .int .i64 a, .int .i64 b], by simp [leL, le], ?_⟩
    dsimp only [v19, go_sem, reduceIte]
    simp only [t_all, forall_const, ne_eq, implies_true, Nat.reduceAdd, Nat.reduceLeDiff, reduceCtorEq, Nat.reduceEqDiff]
    exact ans_bool h
  · exact h.1.elim
def L80 : Env := { ct := fun n => match n with | 19 => some inC | _ => none, fn := fun _ => none, meth := fun _ _ => none }
theorem L80_ct19 : L80.ct 19 = some inC := rfl
theorem L80_ok : EnvOk Try.prog L80 := by
  refine ⟨fun f c h => ?_, fun f vf h => ?_, (fun _ _ _ h => by cases h), by kernel_rfl, (fun _ h => by cases h)⟩
  · simp only [L80] at h
    split at h
    · cases h; exact ⟨rin_c, Try.f19, Try.func19, by kernel_rfl, by kernel_rfl⟩
    · cases h
  · cases h
theorem rchkB_c : chkBC.ok Try.prog 9 := by
  refine contract Try.func9 v9_is L80_ok 300 chkBC fun args k h => ?_
  simp only [chkBC] at h
  split at h
  · rename_i a b c d e
    refine ⟨[.agg [.int .i64 a, .int .i64 b, .int .i64 c, .int .i64 d, .int .i64 e]], by simp [leL, le], ?_⟩
    dsimp only [v9, L80_ct19, inC, go_sem, reduceIte]
    simp only [t_all, forall_const, ne_eq, implies_true, Nat.reduceAdd, Nat.reduceLeDiff, reduceCtorEq, Nat.reduceEqDiff]
    have w4 : (1000 ≤ b ∧ b ≤ 500000) → IntKind.i64.wrap (4 * b) = 4 * b := fun hb => IntWalk.i64_in _ (by omega)
    refine ⟨fun hc => ?_, fun hc => ⟨fun h1 h2 => by rw [h1, decide_eq_false h2]; rfl, fun hd => ?_, fun hd => ?_⟩⟩
    · have e : chkB ⟨a, b, c, d, e⟩ = 2 := by
        unfold chkB
        split
        · rename_i h1
          split
          · rename_i h2
            dsimp only at h1 h2
            simp only [inF, Bool.and_eq_true, Bool.or_eq_true, Bool.not_eq_true', Bool.and_eq_false_iff, decide_eq_true_eq, decide_eq_false_iff_not] at h1 h2 hc
            omega
          · rfl
        · rfl
      rw [e] at h; exact ans_int h
    · have e : chkB ⟨a, b, c, d, e⟩ = 2 := by
        unfold chkB
        split
        · rename_i h1
          split
          · rename_i h2
            simp only [Bool.and_eq_true] at h1 h2
            rw [h2.1.2, h2.2] at hd
            unfold shapeF at h1
            simp only [Bool.not_true, Bool.or_false, Bool.or_eq_true, Bool.and_eq_true, Bool.not_eq_true', decide_eq_true_eq, decide_eq_false_iff_not] at hd
            obtain ⟨_, h3⟩ := h1
            split at h3
            · rename_i h4; rw [decide_eq_true_eq] at h3; dsimp only at h3 h4; omega
            · rename_i h4; rw [decide_eq_true_eq] at h3; dsimp only at h3 h4; omega
          · rfl
        · rfl
      rw [e] at h; exact ans_int h
    · have e : chkB ⟨a, b, c, d, e⟩ = 0 := by
        simp only [Bool.or_eq_false_iff, Bool.not_eq_false', decide_eq_false_iff_not] at hc hd
        unfold chkB
        rw [if_pos, if_pos]
        · rw [hc.1.2, hc.2, hd.1.2, hd.2]; rfl
        · rw [Bool.and_eq_true]
          refine ⟨by unfold inF; rw [Bool.and_eq_true, decide_eq_true_eq, decide_eq_true_eq]; obtain ⟨⟨⟨z1, z2⟩, _⟩, _⟩ := hc; simp only; omega, ?_⟩
          unfold shapeF
          obtain ⟨⟨⟨g1, g2⟩, _⟩, _⟩ := hd
          simp only [Bool.and_eq_false_iff, Bool.not_eq_false', decide_eq_false_iff_not, decide_eq_true_eq] at g1 g2
          split
          · rename_i g3
            simp only at g3 ⊢
            rw [decide_eq_true_eq]
            rcases g1 with g1 | g1
            · exact absurd g3 g1
            · omega
          · rename_i g3
            simp only at g3 ⊢
            rw [decide_eq_true_eq]
            rcases g2 with g2 | g2
            · exact absurd g2 g3
            · exact g2
      rw [e] at h; exact ans_int h
  · exact h.1.elim
def L81 : Env := { ct := fun n => match n with | 7 => some winC | 5 => some lenC | 6 => some pitC | 8 => some trueC | 9 => some chkBC | 10 => some nivC | _ => none, fn := fun _ => none, meth := fun _ _ => none }
theorem L81_ct7 : L81.ct 7 = some winC := rfl
theorem L81_ct5 : L81.ct 5 = some lenC := rfl
theorem L81_ct6 : L81.ct 6 = some pitC := rfl
theorem L81_ct8 : L81.ct 8 = some trueC := rfl
theorem L81_ct9 : L81.ct 9 = some chkBC := rfl
theorem L81_ct10 : L81.ct 10 = some nivC := rfl
theorem L81_ok : EnvOk Try.prog L81 := by
  refine ⟨fun f c h => ?_, fun f vf h => ?_, (fun _ _ _ h => by cases h), by kernel_rfl, (fun _ h => by cases h)⟩
  · simp only [L81] at h
    split at h
    · cases h; exact ⟨win_c, Try.f7, Try.func7, by kernel_rfl, by kernel_rfl⟩
    · cases h; exact ⟨len_c, Try.f5, Try.func5, by kernel_rfl, by kernel_rfl⟩
    · cases h; exact ⟨pit_c, Try.f6, Try.func6, by kernel_rfl, by kernel_rfl⟩
    · cases h; exact ⟨shown_c, Try.f8, Try.func8, by kernel_rfl, by kernel_rfl⟩
    · cases h; exact ⟨rchkB_c, Try.f9, Try.func9, by kernel_rfl, by kernel_rfl⟩
    · cases h; exact ⟨niv_c, Try.f10, Try.func10, by kernel_rfl, by kernel_rfl⟩
    · cases h
  · cases h
def lawR : List PSh := [⟨true, shB ++ bare2 ++ [.int .i64, .int .u16]⟩]
theorem lawRise : (lawC lawR).ok Try.prog 4 := by
  refine contract Try.func4 v4_is L81_ok 600 (lawC lawR) fun args k h => ?_
  obtain ⟨ha, hk⟩ := h
  obtain ⟨_, _, rfl, h1, e1⟩ := okPL_cons_inv ha
  obtain ⟨cs, rfl, hcs⟩ := okP_agg_inv h1
  cases okPL_nil_inv e1
  obtain ⟨_, _, rfl, ⟨a, rfl, _⟩, g1⟩ := okSL_cons_inv hcs
  obtain ⟨_, _, rfl, ⟨b, rfl, _⟩, g2⟩ := okSL_cons_inv g1
  obtain ⟨_, _, rfl, ⟨c, rfl, _⟩, g3⟩ := okSL_cons_inv g2
  obtain ⟨_, _, rfl, ⟨d, rfl, _⟩, g4⟩ := okSL_cons_inv g3
  obtain ⟨_, _, rfl, ⟨e, rfl, _⟩, g5⟩ := okSL_cons_inv g4
  obtain ⟨_, _, rfl, ⟨x0, rfl, _⟩, g6⟩ := okSL_cons_inv g5
  obtain ⟨_, _, rfl, ⟨x1, rfl, _⟩, g7⟩ := okSL_cons_inv g6
  obtain ⟨_, _, rfl, ⟨t, rfl, _⟩, g8⟩ := okSL_cons_inv g7
  obtain ⟨_, _, rfl, ⟨y, rfl, hy⟩, g9⟩ := okSL_cons_inv g8
  cases okSL_nil_inv g9
  refine ⟨[.agg [.int .i64 a, .int .i64 b, .int .i64 c, .int .i64 d, .int .i64 e, .int .i64 x0, .int .i64 x1, .int .i64 t, .int .u16 y]], ?_, ?_⟩
  · simp [leL, le]
  dsimp only [v4, L81_ct7, L81_ct5, L81_ct6, L81_ct8, L81_ct9, L81_ct10, trueC, lenC, pitC, enc2, winC, chkBC, nivC, go_sem, reduceIte]
  simp only [t_all, forall_const, ne_eq, implies_true, Nat.reduceAdd, Nat.reduceLeDiff, reduceCtorEq, Nat.reduceEqDiff]
  have hk' : k (.bool true) [] := hk
  refine ⟨fun _ => ans_bool hk', fun hc => ?_⟩
  have hy1 : IntKind.u16.min ≤ y ∧ y ≤ IntKind.u16.max := by simpa [Lit.wf] using hy
  have hy0 : 0 ≤ y ∧ y ≤ 65535 := hy1
  simp only [Bool.or_eq_false_iff, Bool.not_eq_false', decide_eq_false_iff_not, decide_eq_true_eq] at hc
  have ey : IntKind.i64.wrap y = y := IntWalk.i64_in _ (by omega)
  have et : IntKind.i64.wrap (t + y) = t + y := IntWalk.i64_in _ (by omega)
  have ex0 : IntKind.i64.wrap (x0 + y) = x0 + y := IntWalk.i64_in _ (by omega)
  have ex1 : IntKind.i64.wrap (x1 + y) = x1 + y := IntWalk.i64_in _ (by omega)
  have ed : IntKind.i64.wrap (x1 - x0) = x1 - x0 := IntWalk.i64_in _ (by omega)
  have eh : IntKind.i64.wrap ((x1 - x0).tdiv 2) = (x1 - x0) / 2 := by rw [Int.tdiv_eq_ediv_of_nonneg (by omega)]; exact IntWalk.i64_in _ (by omega)
  have em : IntKind.i64.wrap (x0 + (x1 - x0) / 2) = x0 + (x1 - x0) / 2 := IntWalk.i64_in _ (by omega)
  simp only [ey, et, ex0, ex1, ed, eh, em]
  obtain ⟨m, hm⟩ : ∃ m, m = x0 + (x1 - x0) / 2 := ⟨_, rfl⟩
  obtain ⟨u, hu⟩ : ∃ u, u = min (t + y) 50000 := ⟨_, rfl⟩
  obtain ⟨p, hp⟩ : ∃ p, p = x0 + y := ⟨_, rfl⟩
  obtain ⟨q, hq⟩ : ∃ q, q = x1 + y := ⟨_, rfl⟩
  simp only [← hm, ← hu, ← hp, ← hq]
  have F1 : (lenF ⟨a, b, c, d, e⟩ (x0, x1) t).2 = 0 → (lenF ⟨a, b, c, d, e⟩ (x0, x1) u).2 = 0 → (lenF ⟨a, b, c, d, e⟩ (x0, x1) t).1.1 ≤ (lenF ⟨a, b, c, d, e⟩ (x0, x1) u).1.1 ∧ (lenF ⟨a, b, c, d, e⟩ (x0, x1) t).1.2 ≤ (lenF ⟨a, b, c, d, e⟩ (x0, x1) u).1.2 := fun h1 h2 => rise_1 (by omega) (by omega) (by omega) h1 h2
  have F2 : (pitF ⟨a, b, c, d, e⟩ (x0, x1) t).2 = 0 → (pitF ⟨a, b, c, d, e⟩ (x0, x1) u).2 = 0 → (pitF ⟨a, b, c, d, e⟩ (x0, x1) t).1.1 ≤ (pitF ⟨a, b, c, d, e⟩ (x0, x1) u).1.1 ∧ (pitF ⟨a, b, c, d, e⟩ (x0, x1) t).1.2 ≤ (pitF ⟨a, b, c, d, e⟩ (x0, x1) u).1.2 := fun h1 h2 => rise_2 (by omega) (by omega) (by omega) h1 h2
  have F3 : (lenF ⟨a, b, c, d, e⟩ (x0, x1) t).2 = 0 → (lenF ⟨a, b, c, d, e⟩ (p, q) t).2 = 0 → (lenF ⟨a, b, c, d, e⟩ (p, q) t).1.1 ≤ (lenF ⟨a, b, c, d, e⟩ (x0, x1) t).1.1 ∧ (lenF ⟨a, b, c, d, e⟩ (p, q) t).1.2 ≤ (lenF ⟨a, b, c, d, e⟩ (x0, x1) t).1.2 := fun h1 h2 => rise_3 h1 h2 (by simp only; omega) (by simp only; omega)
  have F4 : (pitF ⟨a, b, c, d, e⟩ (x0, x1) t).2 = 0 → (pitF ⟨a, b, c, d, e⟩ (p, q) t).2 = 0 → (pitF ⟨a, b, c, d, e⟩ (p, q) t).1.1 ≤ (pitF ⟨a, b, c, d, e⟩ (x0, x1) t).1.1 ∧ (pitF ⟨a, b, c, d, e⟩ (p, q) t).1.2 ≤ (pitF ⟨a, b, c, d, e⟩ (x0, x1) t).1.2 := fun h1 h2 => rise_4 h1 h2 (by simp only; omega) (by simp only; omega)
  have F5 : (lenF ⟨a, b, c, d, e⟩ (x0, x1) t).2 = 0 → (lenF ⟨a, b, c, d, e⟩ (m, m) t).2 = 0 ∧ withinF ((lenF ⟨a, b, c, d, e⟩ (m, m) t).1.1, (lenF ⟨a, b, c, d, e⟩ (m, m) t).1.2) ((lenF ⟨a, b, c, d, e⟩ (x0, x1) t).1.1, (lenF ⟨a, b, c, d, e⟩ (x0, x1) t).1.2) = true := fun h1 => rise_5 h1 (by simp only; omega) (Int.le_refl _) (by simp only; omega)
  have F6 : (pitF ⟨a, b, c, d, e⟩ (x0, x1) t).2 = 0 → (pitF ⟨a, b, c, d, e⟩ (m, m) t).2 = 0 ∧ withinF ((pitF ⟨a, b, c, d, e⟩ (m, m) t).1.1, (pitF ⟨a, b, c, d, e⟩ (m, m) t).1.2) ((pitF ⟨a, b, c, d, e⟩ (x0, x1) t).1.1, (pitF ⟨a, b, c, d, e⟩ (x0, x1) t).1.2) = true := fun h1 => rise_6 h1 (by simp only; omega) (Int.le_refl _) (by simp only; omega)
  generalize lenF ⟨a, b, c, d, e⟩ (x0, x1) t = A at *
  generalize lenF ⟨a, b, c, d, e⟩ (x0, x1) u = B at *
  generalize lenF ⟨a, b, c, d, e⟩ (p, q) t = C at *
  generalize lenF ⟨a, b, c, d, e⟩ (m, m) t = D at *
  generalize pitF ⟨a, b, c, d, e⟩ (x0, x1) t = P at *
  generalize pitF ⟨a, b, c, d, e⟩ (x0, x1) u = Q at *
  generalize pitF ⟨a, b, c, d, e⟩ (p, q) t = R at *
  generalize pitF ⟨a, b, c, d, e⟩ (m, m) t = S at *
  generalize withinF (D.1.1, D.1.2) (A.1.1, A.1.2) = V at *
  generalize withinF (S.1.1, S.1.2) (P.1.1, P.1.2) = W at *
  have G : ∀ (X Y : Iv × Int) (z : Bool), (X.2 = 0 → Y.2 = 0 → z = false) → (decide (X.2 = 0) && decide (Y.2 = 0) && z) = false := fun X Y z hz => by
    by_cases h1 : X.2 = 0
    · by_cases h2 : Y.2 = 0
      · rw [hz h1 h2, Bool.and_false]
      · rw [decide_eq_false h2, Bool.and_false, Bool.false_and]
    · rw [decide_eq_false h1, Bool.false_and, Bool.false_and]
  have L : ∀ (x y z w : Int), x ≤ y ∧ z ≤ w → (decide (y < x) || decide (w < z)) = false := fun x y z w hz => by
    rw [decide_eq_false (by omega), decide_eq_false (by omega)]; rfl
  have G1 := G A B _ fun h1 h2 => L _ _ _ _ (F1 h1 h2)
  have G2 := G P Q _ fun h1 h2 => L _ _ _ _ (F2 h1 h2)
  have G3 := G A C _ fun h1 h2 => L _ _ _ _ (F3 h1 h2)
  have G4 := G P R _ fun h1 h2 => L _ _ _ _ (F4 h1 h2)
  have K : ∀ (X Y : Iv × Int) (z : Bool), (X.2 = 0 → Y.2 = 0 ∧ z = true) → (decide (X.2 = 0) && (!decide (Y.2 = 0) || !z)) = false := fun X Y z hz => by
    by_cases h1 : X.2 = 0
    · obtain ⟨h2, h3⟩ := hz h1
      rw [decide_eq_true h2, h3, Bool.not_true, Bool.or_false, Bool.and_false]
    · rw [decide_eq_false h1, Bool.false_and]
  have G5 := K A D V F5
  have G6 := K P S W F6
  simp only [G1, G2, G3, G4, G5, G6, Bool.or_self, Bool.not_false, Bool.true_and, Bool.false_or, Bool.or_false]
  repeat' (first | exact ans_bool hk' | decide | apply And.intro | intro hh)
  all_goals simp_all
end Go.Proofs.Ytijadllhfgajlaa
set_option linter.all false
namespace Go.Proofs.Ytijadllhfgajlaa
open Go Go.Vx Go.RowKit
set_option maxRecDepth 100000
theorem ownX2 : ownKnob Try.prog.godebug = none := by kernel_rfl
theorem laidX2 : laidOutB Try.prog = true := by kernel_rfl
theorem lengthsRise_lifted (os : Os) (started : os.Started) (H : Type) (enc : TypeId × Value → H) :
    ReturnsInHanded {} Try.checked os 4 .any (Rows.lengthsRiseSpec.pre6 enc Try.prog Try.f4 Rows.lengthsRiseRow.domain false) (Rows.lengthsRiseSpec.post enc Try.prog Try.f4 false true false false) :=
  law_lifted (C := Try.checked) (tb := 4) ownX2 started (by kernel_rfl) Try.func4 laidX2
    (ChangeSpec.witness6 (enc := enc) (C := Try.checked) false ⟨#[], #[.agg #[.int .i64 0, .int .i64 0, .int .i64 0, .int .i64 0, .int .i64 0, .int .i64 0, .int .i64 0, .int .i64 0, .int .u16 0]], []⟩ 8 (by kernel_rfl) (by kernel_rfl) (by kernel_rfl) (by kernel_rfl))
    (by kernel_rfl) (by kernel_rfl) (by kernel_rfl) (by kernel_rfl) rfl (fun ds h => match ds, h with | [_], _ => ⟨rfl, rfl, rfl⟩) lawRise
theorem lengthsRise_holds : Rows.LengthsRiseSaid :=
  OpenClaim.holds_of_wide 4 Try.f4 rfl rfl rfl rfl rfl rfl rfl ⟨rfl, rfl, rfl, rfl, rfl⟩ rfl rfl rfl rfl rfl (by kernel_rfl) Try.func4 (by kernel_rfl)
    (of_decide_eq_true (by kernel_rfl)) (by unfold Func.isWrapper; first | (rw [if_pos (by decide +kernel)]; kernel_rfl) | (rw [if_neg (by decide +kernel)]; exact ⟨rfl, rfl⟩))
    (fun os started H enc _ => lengthsRise_lifted os started H enc)
end Go.Proofs.Ytijadllhfgajlaa
