/- Scales, walked: the law ScalingExact. -/
import Derived.Test.YtmgfmkbniaepcaaMgX2f
import Derived.Test.YtmgfmkbniaepcaaRows
set_option linter.all false
namespace Go.Proofs.Ytmgfmkbniaepcaa
open Go Go.Vx
set_option maxRecDepth 100000
set_option maxHeartbeats 4000000
def v13 : VF := { ntmps := 17, res := [.tmp 4, .tmp 5], body :=
 (.seq (.region [u1 4 .mov [.cn (.int .i64 0)],
 u1 5 .mov [.cn (.int .i64 0)]])
 (.seq (.region [u1 7 .mov [.tm 0],
 u1 8 .mov [.tm 1],
 u1 9 (.buildSlice 1 2 [.nil] [(0, 1), (1, 1)]) [.tm 7, .tm 8],
 u1 10 (.call 22) [.tm 9],
 u1 6 .mov [.tm 10]])
 (.seq (.seq (.region [u1 11 .mov [.tm 6],
 u1 12 (.cmp .neq) [.tm 11, .cn (.int .i64 0)]])
 (.cond (.tm 12) (.seq (.region [u1 13 .mov [.tm 6],
 u1 4 .mov [.cn (.int .i64 0)],
 u1 5 .mov [.tm 13]])
 .ret)
  .skip))
 (.seq (.region [u1 14 .mov [.tm 0],
 u1 15 .mov [.tm 1],
 u1 16 (.call 27) [.tm 14, .tm 15],
 u1 4 .mov [.tm 16],
 u1 5 .mov [.cn (.int .i64 0)]])
 .ret)))) }
theorem v13_is : vfunc Try.prog Try.f13 = some v13 := by kernel_rfl
def v9 : VF := { ntmps := 55, res := [.tmp 8, .tmp 9], body :=
 (.seq (.region [u1 8 .mov [.cn (.bool false)],
 u1 9 .mov [.cn (.bool false)]])
 (.seq (.region [u1 16 .mov [.tm 0],
 u1 17 (.call 11) [.tm 16],
 u1 18 .mov [.tm 3],
 u1 19 (.call 10) [.tm 17, .tm 18],
 u1 15 .mov [.tm 19],
 u1 20 (.ext 0) [.tm 15],
 u1 21 (.ext 1) [.tm 15],
 u1 10 .mov [.tm 20],
 u1 11 .mov [.tm 21]])
 (.seq (.region [u1 23 .mov [.tm 1],
 u1 24 (.call 11) [.tm 23],
 u1 25 .mov [.tm 3],
 u1 26 (.call 10) [.tm 24, .tm 25],
 u1 22 .mov [.tm 26],
 u1 27 (.ext 0) [.tm 22],
 u1 28 (.ext 1) [.tm 22],
 u1 12 .mov [.tm 27],
 u1 13 .mov [.tm 28]])
 (.seq (.seq (.region [u1 29 .mov [.tm 11],
 u1 30 (.cmp .neq) [.tm 29, .cn (.int .i64 0)],
 u1 31 .mov [.tm 30],
 u2 32 31 false .mov [.tm 13],
 u2 33 31 false (.cmp .neq) [.tm 32, .cn (.int .i64 0)],
 u1 34 .or [.tm 31, .tm 33]])
 (.cond (.tm 34) (.seq (.region [u1 8 .mov [.cn (.bool false)],
 u1 9 .mov [.cn (.bool false)]])
 .ret)
  .skip))
 (.seq (.region [u1 36 .mov [.tm 10],
 u1 37 .mov [.tm 2],
 u1 38 (.call 12) [.tm 36, .tm 37],
 u1 35 .mov [.tm 38],
 u1 39 (.ext 0) [.tm 35],
 u1 40 (.ext 1) [.tm 35],
 u1 10 .mov [.tm 39],
 u1 11 .mov [.tm 40]])
 (.seq (.region [u1 42 .mov [.tm 10],
 u1 43 .mov [.tm 12],
 u1 44 (.call 13) [.tm 42, .tm 43],
 u1 41 .mov [.tm 44],
 u1 45 (.ext 0) [.tm 41],
 u1 46 (.ext 1) [.tm 41],
 u1 14 .mov [.tm 45],
 u1 13 .mov [.tm 46]])
 (.seq (.region [u1 47 .mov [.tm 14],
 u1 48 (.cmp .leq) [.tm 47, .cn (.int .i64 0)],
 u1 49 .mov [.tm 11],
 u1 50 (.cmp .eql) [.tm 49, .cn (.int .i64 0)],
 u1 51 .mov [.tm 50],
 u2 52 51 true .mov [.tm 13],
 u2 53 51 true (.cmp .eql) [.tm 52, .cn (.int .i64 0)],
 u1 54 .and [.tm 51, .tm 53],
 u1 8 .mov [.tm 48],
 u1 9 .mov [.tm 54]])
 .ret))))))) }
theorem v9_is : vfunc Try.prog Try.f9 = some v9 := by kernel_rfl
def v3 : VF := { ntmps := 264, res := [.tmp 4], body :=
 (.seq (.region [u1 2 .box [.tm 0],
 u1 4 .mov [.cn (.bool false)]])
 (.seq (.seq (.region [u1 28 (.load true 7) [.tm 2],
 u1 29 (.call 5) [.tm 28],
 u1 30 (.cmp .neq) [.tm 29, .cn (.int .i64 0)],
 u1 31 .mov [.tm 30],
 u2 32 31 false (.fieldAddr 2) [.tm 2],
 u2 33 31 false (.load false 1) [.tm 32],
 u2 34 31 false .len [.tm 33],
 u2 35 31 false (.cmp .neq) [.tm 34, .cn (.int .i64 1)],
 u1 36 .or [.tm 31, .tm 35],
 u1 37 .mov [.tm 36],
 u2 38 37 false (.fieldAddr 2) [.tm 2],
 u2 39 37 false (.load false 1) [.tm 38],
 u2 40 37 false (.idxAddr 2) [.tm 39, .cn (.int .i64 0)],
 u2 41 37 false (.fieldAddr 1) [.tm 40],
 u2 42 37 false (.load false 1) [.tm 41],
 u2 43 37 false (.cmp .gtr) [.tm 42, .cn (.int .i64 16)],
 u1 44 .or [.tm 37, .tm 43],
 u1 45 .mov [.tm 44],
 u2 46 45 false (.load true 7) [.tm 2],
 u2 47 45 false .mov [.tm 1],
 u2 48 45 false (.call 6) [.tm 46, .tm 47],
 u2 49 45 false .not [.tm 48],
 u1 50 .or [.tm 45, .tm 49]])
 (.cond (.tm 50) (.seq (.region [u1 51 (.call 7) [],
 u1 4 .mov [.tm 51]])
 .ret)
  .skip))
 (.seq (.region [u1 53 (.load true 7) [.tm 2],
 u1 54 .mov [.tm 1],
 u1 55 (.call 8) [.tm 53, .tm 54],
 u1 52 .mov [.tm 55],
 u1 56 (.ext 0) [.tm 52],
 u1 57 (.ext 1) [.tm 52],
 u1 5 (.alloc [(.int .i64 0), (.int .i64 0)]) [],
 u0 (.store 2) [.tm 5, .tm 56],
 u1 6 .mov [.tm 57]])
 (.seq (.seq (.region [u1 58 .mov [.tm 6],
 u1 59 (.cmp .neq) [.tm 58, .cn (.int .i64 0)],
 u1 60 .mov [.tm 59],
 u2 61 60 false (.fieldAddr 0) [.tm 5],
 u2 62 60 false (.load false 1) [.tm 61],
 u2 63 60 false (.fieldAddr 1) [.tm 2],
 u2 64 60 false (.load false 1) [.tm 63],
 u2 65 60 false (.cmp .lss) [.tm 62, .tm 64],
 u1 66 .or [.tm 60, .tm 65],
 u1 67 .mov [.tm 66],
 u2 68 67 false (.fieldAddr 1) [.tm 5],
 u2 69 67 false (.load false 1) [.tm 68],
 u2 70 67 false (.fieldAddr 0) [.tm 5],
 u2 71 67 false (.load false 1) [.tm 70],
 u2 72 67 false (.cmp .lss) [.tm 69, .tm 71],
 u1 73 .or [.tm 67, .tm 72],
 u1 74 .mov [.tm 73],
 u2 75 74 false (.fieldAddr 1) [.tm 5],
 u2 76 74 false (.load false 1) [.tm 75],
 u2 77 74 false (.fieldAddr 0) [.tm 5],
 u2 78 74 false (.load false 1) [.tm 77],
 u2 79 74 false (.ari .add) [.tm 78, .cn (.int .i64 1)],
 u2 80 74 false (.cmp .gtr) [.tm 76, .tm 79],
 u1 81 .or [.tm 74, .tm 80],
 u1 82 .mov [.tm 81],
 u2 83 82 false (.fieldAddr 1) [.tm 5],
 u2 84 82 false (.load false 1) [.tm 83],
 u2 85 82 false (.fieldAddr 0) [.tm 2],
 u2 86 82 false (.load false 1) [.tm 85],
 u2 87 82 false (.cmp .gtr) [.tm 84, .tm 86],
 u1 88 .or [.tm 82, .tm 87]])
 (.cond (.tm 88) (.seq (.region [u1 4 .mov [.cn (.bool false)]])
 .ret)
  .skip))
 (.seq (.draw [] [w1 89 .mov [.tm 1],
 w1 90 (.fieldAddr 2) [.tm 2],
 w1 91 (.load false 1) [.tm 90],
 w1 92 (.idxAddr 2) [.tm 91, .cn (.int .i64 0)],
 w1 93 (.fieldAddr 0) [.tm 92],
 w1 94 (.load false 1) [.tm 93],
 w1 95 (.ari .sub) [.tm 89, .tm 94],
 w1 96 (.fieldAddr 2) [.tm 2],
 w1 97 (.load false 1) [.tm 96],
 w1 98 (.idxAddr 2) [.tm 97, .cn (.int .i64 0)],
 w1 99 (.fieldAddr 1) [.tm 98],
 w1 100 (.load false 1) [.tm 99],
 w1 7 .mov [.tm 95],
 w1 8 .mov [.tm 100]])
 (.seq (.region [u1 101 (.fieldAddr 0) [.tm 2],
 u1 102 (.load false 1) [.tm 101],
 u1 103 (.fieldAddr 1) [.tm 2],
 u1 104 (.load false 1) [.tm 103],
 u1 105 (.ari .sub) [.tm 102, .tm 104],
 u1 106 (.conv .u64) [.tm 105],
 u1 9 .mov [.tm 106]])
 (.seq (.region [u1 108 (.fieldAddr 0) [.tm 5],
 u1 109 (.load false 1) [.tm 108],
 u1 110 (.fieldAddr 1) [.tm 2],
 u1 111 (.load false 1) [.tm 110],
 u1 112 (.ari .sub) [.tm 109, .tm 111],
 u1 113 (.conv .u64) [.tm 112],
 u1 114 .mov [.tm 9],
 u1 115 .mov [.tm 7],
 u1 116 .mov [.tm 8],
 u1 117 (.call 9) [.tm 113, .tm 114, .tm 115, .tm 116],
 u1 107 .mov [.tm 117],
 u1 118 (.ext 0) [.tm 107],
 u1 119 (.ext 1) [.tm 107],
 u1 10 .mov [.tm 118],
 u1 11 .mov [.tm 119]])
 (.seq (.region [u1 121 (.fieldAddr 0) [.tm 5],
 u1 122 (.load false 1) [.tm 121],
 u1 123 (.fieldAddr 1) [.tm 2],
 u1 124 (.load false 1) [.tm 123],
 u1 125 (.ari .sub) [.tm 122, .tm 124],
 u1 126 (.conv .u64) [.tm 125],
 u1 127 (.ari .add) [.tm 126, .cn (.int .u64 1)],
 u1 128 .mov [.tm 9],
 u1 129 .mov [.tm 7],
 u1 130 .mov [.tm 8],
 u1 131 (.call 9) [.tm 127, .tm 128, .tm 129, .tm 130],
 u1 120 .mov [.tm 131],
 u1 132 (.ext 0) [.tm 120],
 u1 133 (.ext 1) [.tm 120],
 u1 12 .mov [.tm 132],
 u1 13 .mov [.tm 133]])
 (.seq (.seq (.region [u1 134 .mov [.tm 11],
 u1 135 .not [.tm 134],
 u1 136 .mov [.tm 135],
 u2 137 136 false .mov [.tm 13],
 u2 138 136 false .not [.tm 137],
 u1 139 .or [.tm 136, .tm 138],
 u1 140 .mov [.tm 139],
 u2 141 140 false .mov [.tm 10],
 u2 142 140 false .not [.tm 141],
 u1 143 .or [.tm 140, .tm 142],
 u1 144 .mov [.tm 143],
 u2 145 144 false .mov [.tm 12],
 u2 146 144 false .mov [.tm 145],
 u2 147 146 true (.fieldAddr 1) [.tm 5],
 u2 148 146 true (.load false 1) [.tm 147],
 u2 149 146 true (.fieldAddr 0) [.tm 5],
 u2 150 146 true (.load false 1) [.tm 149],
 u2 151 146 true (.cmp .eql) [.tm 148, .tm 150],
 u2 152 144 false .and [.tm 146, .tm 151],
 u1 153 .or [.tm 144, .tm 152]])
 (.cond (.tm 153) (.seq (.region [u1 4 .mov [.cn (.bool false)]])
 .ret)
  .skip))
 (.seq (.seq (.region [u1 154 (.fieldAddr 1) [.tm 5],
 u1 155 (.load false 1) [.tm 154],
 u1 156 (.fieldAddr 0) [.tm 5],
 u1 157 (.load false 1) [.tm 156],
 u1 158 (.cmp .eql) [.tm 155, .tm 157]])
 (.cond (.tm 158) (.seq (.region [u1 159 (.fieldAddr 0) [.tm 5],
 u1 160 (.load false 1) [.tm 159],
 u1 161 (.fieldAddr 1) [.tm 2],
 u1 162 (.load false 1) [.tm 161],
 u1 163 (.ari .sub) [.tm 160, .tm 162],
 u1 164 (.conv .u64) [.tm 163],
 u1 14 .mov [.tm 164]])
 (.seq (.region [u1 166 .mov [.tm 14],
 u1 167 (.call 11) [.tm 166],
 u1 168 .mov [.tm 8],
 u1 169 (.call 10) [.tm 167, .tm 168],
 u1 165 .mov [.tm 169],
 u1 170 (.ext 0) [.tm 165],
 u1 171 (.ext 1) [.tm 165],
 u1 15 .mov [.tm 170],
 u1 16 .mov [.tm 171]])
 (.seq (.region [u1 173 .mov [.tm 9],
 u1 174 (.call 11) [.tm 173],
 u1 175 .mov [.tm 8],
 u1 176 (.call 10) [.tm 174, .tm 175],
 u1 172 .mov [.tm 176],
 u1 177 (.ext 0) [.tm 172],
 u1 178 (.ext 1) [.tm 172],
 u1 17 .mov [.tm 177],
 u1 18 .mov [.tm 178]])
 (.seq (.region [u1 180 .mov [.tm 15],
 u1 181 .mov [.tm 7],
 u1 182 (.call 12) [.tm 180, .tm 181],
 u1 179 .mov [.tm 182],
 u1 183 (.ext 0) [.tm 179],
 u1 184 (.ext 1) [.tm 179],
 u1 15 .mov [.tm 183],
 u1 19 .mov [.tm 184]])
 (.seq (.region [u1 186 .mov [.tm 15],
 u1 187 .mov [.tm 17],
 u1 188 (.call 13) [.tm 186, .tm 187],
 u1 185 .mov [.tm 188],
 u1 189 (.ext 0) [.tm 185],
 u1 190 (.ext 1) [.tm 185],
 u1 20 .mov [.tm 189],
 u1 21 .mov [.tm 190]])
 (.seq (.region [u1 191 .mov [.tm 16],
 u1 192 (.cmp .eql) [.tm 191, .cn (.int .i64 0)],
 u1 193 .mov [.tm 192],
 u2 194 193 true .mov [.tm 18],
 u2 195 193 true (.cmp .eql) [.tm 194, .cn (.int .i64 0)],
 u1 196 .and [.tm 193, .tm 195],
 u1 197 .mov [.tm 196],
 u2 198 197 true .mov [.tm 19],
 u2 199 197 true (.cmp .eql) [.tm 198, .cn (.int .i64 0)],
 u1 200 .and [.tm 197, .tm 199],
 u1 201 .mov [.tm 200],
 u2 202 201 true .mov [.tm 21],
 u2 203 201 true (.cmp .eql) [.tm 202, .cn (.int .i64 0)],
 u1 204 .and [.tm 201, .tm 203],
 u1 205 .mov [.tm 204],
 u2 206 205 true .mov [.tm 20],
 u2 207 205 true (.cmp .eql) [.tm 206, .cn (.int .i64 0)],
 u1 208 .and [.tm 205, .tm 207],
 u1 209 .mov [.tm 208],
 u2 210 209 true (.call 7) [],
 u1 211 .and [.tm 209, .tm 210],
 u1 4 .mov [.tm 211]])
 .ret))))))
  .skip))
 (.seq (.region [u1 213 (.fieldAddr 1) [.tm 5],
 u1 214 (.load false 1) [.tm 213],
 u1 215 (.fieldAddr 1) [.tm 2],
 u1 216 (.load false 1) [.tm 215],
 u1 217 (.ari .sub) [.tm 214, .tm 216],
 u1 218 (.conv .u64) [.tm 217],
 u1 219 (.call 11) [.tm 218],
 u1 220 .mov [.tm 8],
 u1 221 (.call 10) [.tm 219, .tm 220],
 u1 212 .mov [.tm 221],
 u1 222 (.ext 0) [.tm 212],
 u1 223 (.ext 1) [.tm 212],
 u1 22 .mov [.tm 222],
 u1 6 .mov [.tm 223]])
 (.seq (.region [u1 225 .mov [.tm 9],
 u1 226 (.call 11) [.tm 225],
 u1 227 .mov [.tm 8],
 u1 228 (.call 10) [.tm 226, .tm 227],
 u1 224 .mov [.tm 228],
 u1 229 (.ext 0) [.tm 224],
 u1 230 (.ext 1) [.tm 224],
 u1 23 .mov [.tm 229],
 u1 24 .mov [.tm 230]])
 (.seq (.region [u1 232 .mov [.tm 22],
 u1 233 .mov [.tm 7],
 u1 234 (.call 12) [.tm 232, .tm 233],
 u1 231 .mov [.tm 234],
 u1 235 (.ext 0) [.tm 231],
 u1 236 (.ext 1) [.tm 231],
 u1 22 .mov [.tm 235],
 u1 25 .mov [.tm 236]])
 (.seq (.region [u1 238 .mov [.tm 22],
 u1 239 .mov [.tm 23],
 u1 240 (.call 13) [.tm 238, .tm 239],
 u1 237 .mov [.tm 240],
 u1 241 (.ext 0) [.tm 237],
 u1 242 (.ext 1) [.tm 237],
 u1 26 .mov [.tm 241],
 u1 27 .mov [.tm 242]])
 (.seq (.region [u1 243 .mov [.tm 6],
 u1 244 (.cmp .eql) [.tm 243, .cn (.int .i64 0)],
 u1 245 .mov [.tm 244],
 u2 246 245 true .mov [.tm 24],
 u2 247 245 true (.cmp .eql) [.tm 246, .cn (.int .i64 0)],
 u1 248 .and [.tm 245, .tm 247],
 u1 249 .mov [.tm 248],
 u2 250 249 true .mov [.tm 25],
 u2 251 249 true (.cmp .eql) [.tm 250, .cn (.int .i64 0)],
 u1 252 .and [.tm 249, .tm 251],
 u1 253 .mov [.tm 252],
 u2 254 253 true .mov [.tm 27],
 u2 255 253 true (.cmp .eql) [.tm 254, .cn (.int .i64 0)],
 u1 256 .and [.tm 253, .tm 255],
 u1 257 .mov [.tm 256],
 u2 258 257 true .mov [.tm 26],
 u2 259 257 true (.cmp .gtr) [.tm 258, .cn (.int .i64 0)],
 u1 260 .and [.tm 257, .tm 259],
 u1 261 .mov [.tm 260],
 u2 262 261 true (.call 7) [],
 u1 263 .and [.tm 261, .tm 262],
 u1 4 .mov [.tm 263]])
 .ret))))))))))))))) }
theorem v3_is : vfunc Try.prog Try.f3 = some v3 := by kernel_rfl
theorem ans_bb {k : SV → List HO → Prop} {al : Bool} {hp : List HO} {x y : Bool} (h : k (.tup [.bool x, .bool y]) []) : answers al k (.tup [.bool x, .bool y]) hp :=
  ans_le (show k _ [] from h) (le_self (.tup [.bool x, .bool y]) ⟨trivial, trivial, trivial⟩) (fun _ => by simp [freshS, freshL])
def ncmpC : Ctr := { alias := false, of := fun l => match l with
  | [.vs _ _ n sz get, .vs _ _ m sz' get'] => .ex Nat fun a => .ex Nat fun b => .pre (padP a n sz get ∧ n = nl a ∧ nl a ≤ 512 ∧ padP b m sz' get' ∧ m = nl b ∧ nl b ≤ 512) (.fin (.tup [.int .i64 (ordN a b), .int .i64 0]) [])
  | _ => noC }
def K50 : Env := { ct := fun n => match n with | 22 => some badnC | 27 => some orderC | _ => none, fn := fun _ => none, meth := fun _ _ => none }
theorem K50_ct22 : K50.ct 22 = some badnC := rfl
theorem K50_ct27 : K50.ct 27 = some orderC := rfl
theorem K50_ok : EnvOk Try.prog K50 := by
  refine ⟨fun f c h => ?_, fun f vf h => ?_, (fun _ _ _ h => by cases h), by kernel_rfl, (fun _ h => by cases h)⟩
  · simp only [K50] at h
    split at h
    · cases h; exact ⟨bad_ok, Try.f22, Try.func22, by kernel_rfl, by kernel_rfl⟩
    · cases h; exact ⟨order_ok, Try.f27, Try.func27, by kernel_rfl, by kernel_rfl⟩
    · cases h
  · cases h
theorem ncmp_c : ncmpC.ok Try.prog 13 := by
  refine contract Try.func13 v13_is K50_ok 300 ncmpC fun args k h => ?_
  simp only [ncmpC] at h
  split at h
  · rename_i t1 z1 n sz get t2 z2 m sz' get'
    obtain ⟨a, b, ⟨⟨rfl, hn, ha, hg⟩, rfl, hna, ⟨rfl, hn', hb, hg'⟩, rfl, hnb⟩, h⟩ := h
    refine ⟨[.vs t1 z1 (nl a) 1 (fun k => [.int .u32 (dig a k)]), .vs t2 z2 (nl b) 1 (fun k => [.int .u32 (dig b k)])], ⟨by simpa [le] using hg, by simpa [le] using hg', trivial⟩, ?_⟩
    dsimp only [v13, K50_ct22, K50_ct27, badnC, orderC, natS, go_sem, reduceIte]
    simp only [t_all, forall_const, ne_eq, implies_true, Nat.reduceAdd, Nat.reduceLeDiff, reduceCtorEq, Nat.reduceEqDiff]
    refine ⟨by decide, [(z1, a), (z2, b)], ⟨⟨rfl, rfl, fun k hk => match k, hk with | 0, _ => leXL_self _ | 1, _ => leXL_self _⟩, by simp, by simp; exact ⟨hna, hnb⟩⟩, fun hh => absurd trivial hh, a, b, ⟨padP_nl (by omega), padP_nl (by omega)⟩, ans_t2 h⟩
  · exact h.1.elim
def belowC : Ctr := { alias := false, of := fun l => match l with
  | [.int .u64 k, .int .u64 m, .int .i64 p, .int .i64 q] => .ex Nat fun K => .ex Nat fun M => .ex Nat fun P => .ex Nat fun Q => .pre ((k = (K : Int) ∧ m = (M : Int) ∧ p = (P : Int) ∧ q = (Q : Int)) ∧ K ≤ 600000 ∧ M ≤ 600000 ∧ P ≤ 139 ∧ Q ≤ 16)
    (.fin (.tup [.bool (decide (K ^ Q * 2 ^ P ≤ M ^ Q)), .bool true]) [])
  | _ => noC }
theorem pow_small {K Q : Nat} (hK : K ≤ 600000) (hQ : Q ≤ 16) : K ^ Q < 2 ^ 320 := by
  have h1 : K ^ Q ≤ 600000 ^ Q := Nat.pow_le_pow_left hK Q
  have h2 : 600000 ^ Q ≤ 600000 ^ 16 := Nat.pow_le_pow_right (by decide) hQ
  exact Nat.lt_of_le_of_lt (Nat.le_trans h1 h2) (by decide +kernel)
theorem nl_small {a e k : Nat} (h : a < 2 ^ e) (hk : e ≤ 32 * k) : nl a ≤ k := cap_nl h hk
theorem sh_small {a e p : Nat} (h : a < 2 ^ e) : a * 2 ^ p < 2 ^ (e + p) := by
  rw [Nat.pow_add]
  exact Nat.mul_lt_mul_of_pos_right h (p2_pos p)
def K51 : Env := { ct := fun n => match n with | 11 => some ofC | 10 => some npowC | 12 => some shiftC | 13 => some ncmpC | _ => none, fn := fun _ => none, meth := fun _ _ => none }
theorem K51_ct11 : K51.ct 11 = some ofC := rfl
theorem K51_ct10 : K51.ct 10 = some npowC := rfl
theorem K51_ct12 : K51.ct 12 = some shiftC := rfl
theorem K51_ct13 : K51.ct 13 = some ncmpC := rfl
theorem K51_ok : EnvOk Try.prog K51 := by
  refine ⟨fun f c h => ?_, fun f vf h => ?_, (fun _ _ _ h => by cases h), by kernel_rfl, (fun _ h => by cases h)⟩
  · simp only [K51] at h
    split at h
    · cases h; exact ⟨of_ok, Try.f11, Try.func11, by kernel_rfl, by kernel_rfl⟩
    · cases h; exact ⟨npow_ok, Try.f10, Try.func10, by kernel_rfl, by kernel_rfl⟩
    · cases h; exact ⟨shift_ok, Try.f12, Try.func12, by kernel_rfl, by kernel_rfl⟩
    · cases h; exact ⟨ncmp_c, Try.f13, Try.func13, by kernel_rfl, by kernel_rfl⟩
    · cases h
  · cases h
theorem below_c : belowC.ok Try.prog 9 := by
  refine contract Try.func9 v9_is K51_ok 300 belowC fun args k h => ?_
  simp only [belowC] at h
  split at h
  · rename_i k' m' p' q'
    obtain ⟨K, M, P, Q, ⟨⟨rfl, rfl, rfl, rfl⟩, hK, hM, hP, hQ⟩, h⟩ := h
    refine ⟨[.int .u64 (K : Int), .int .u64 (M : Int), .int .i64 (P : Int), .int .i64 (Q : Int)], by simp [leL, le], ?_⟩
    dsimp only [v9, K51_ct11, K51_ct10, K51_ct12, K51_ct13, ofC, npowC, shiftC, ncmpC, natS, Int.toNat_natCast, go_sem, reduceIte]
    simp only [t_all, forall_const, ne_eq, implies_true, Nat.reduceAdd, Nat.reduceLeDiff, reduceCtorEq, Nat.reduceEqDiff]
    have hKQ := pow_small hK hQ
    have hMQ := pow_small hM hQ
    have n1 : nl (K ^ Q) ≤ 10 := nl_small hKQ (by decide)
    have n2 : nl (M ^ Q) ≤ 10 := nl_small hMQ (by decide)
    have n3 : nl (K ^ Q * 2 ^ P) ≤ 15 := nl_small (sh_small hKQ) (by omega)
    have n4 : bitsN (K ^ Q) ≤ 320 := bitsN_le.2 hKQ
    have n5 : nl K ≤ 1 := nl_le.2 (by omega)
    have n6 : nl M ≤ 1 := nl_le.2 (by omega)
    refine ⟨⟨by omega, by omega⟩, K, Q, ⟨padP_nl (by omega), rfl, rfl, by omega, by omega, by omega⟩, by decide, by decide, ⟨by omega, by omega⟩, M, Q, ⟨padP_nl (by omega), rfl, rfl, by omega, by omega, by omega⟩, by decide, by decide, fun hh => absurd hh (by decide), fun _ => ⟨K ^ Q, P, ⟨padP_nl (by omega), rfl, by omega, rfl, by omega⟩, by decide, by decide, K ^ Q * 2 ^ P, M ^ Q, ⟨padP_nl (by omega), rfl, by omega, padP_nl (by omega), rfl, by omega⟩, by decide, by decide, ?_⟩⟩
    have e : decide (ordN (K ^ Q * 2 ^ P) (M ^ Q) ≤ 0) = decide (K ^ Q * 2 ^ P ≤ M ^ Q) := by
      refine decide_eq_decide.2 ?_
      unfold ordN
      constructor
      · intro hh
        split at hh
        · omega
        · split at hh
          · omega
          · omega
      · intro hh
        split
        · decide
        · rw [if_neg (by omega)]; decide
    rw [e]
    exact ans_bb h
  · exact h.1.elim
def lawX : List PSh := [⟨true, shS⟩, ⟨false, [.int .i64]⟩]
def K52 : Env := { ct := fun n => match n with | 5 => some chkSC | 6 => some hasC | 7 => some trueC | 8 => some diaFC | 9 => some belowC | 11 => some ofC | 10 => some npowC | 12 => some shiftC | 13 => some ncmpC | _ => none, fn := fun _ => none, meth := fun _ _ => none }
theorem K52_ct5 : K52.ct 5 = some chkSC := rfl
theorem K52_ct6 : K52.ct 6 = some hasC := rfl
theorem K52_ct7 : K52.ct 7 = some trueC := rfl
theorem K52_ct8 : K52.ct 8 = some diaFC := rfl
theorem K52_ct9 : K52.ct 9 = some belowC := rfl
theorem K52_ct11 : K52.ct 11 = some ofC := rfl
theorem K52_ct10 : K52.ct 10 = some npowC := rfl
theorem K52_ct12 : K52.ct 12 = some shiftC := rfl
theorem K52_ct13 : K52.ct 13 = some ncmpC := rfl
theorem K52_ok : EnvOk Try.prog K52 := by
  refine ⟨fun f c h => ?_, fun f vf h => ?_, (fun _ _ _ h => by cases h), by kernel_rfl, (fun _ h => by cases h)⟩
  · simp only [K52] at h
    split at h
    · cases h; exact ⟨rchkS_c, Try.f5, Try.func5, by kernel_rfl, by kernel_rfl⟩
    · cases h; exact ⟨rhasS_c, Try.f6, Try.func6, by kernel_rfl, by kernel_rfl⟩
    · cases h; exact ⟨shown_c, Try.f7, Try.func7, by kernel_rfl, by kernel_rfl⟩
    · cases h; exact ⟨diaF_c, Try.f8, Try.func8, by kernel_rfl, by kernel_rfl⟩
    · cases h; exact ⟨below_c, Try.f9, Try.func9, by kernel_rfl, by kernel_rfl⟩
    · cases h; exact ⟨of_ok, Try.f11, Try.func11, by kernel_rfl, by kernel_rfl⟩
    · cases h; exact ⟨npow_ok, Try.f10, Try.func10, by kernel_rfl, by kernel_rfl⟩
    · cases h; exact ⟨shift_ok, Try.f12, Try.func12, by kernel_rfl, by kernel_rfl⟩
    · cases h; exact ⟨ncmp_c, Try.f13, Try.func13, by kernel_rfl, by kernel_rfl⟩
    · cases h
  · cases h
theorem lawExact : (lawC lawX).ok Try.prog 3 := by
  refine contract Try.func3 v3_is K52_ok 800 (lawC lawX) fun args k h => ?_
  obtain ⟨ha, hk⟩ := h
  obtain ⟨_, _, rfl, h1, e1⟩ := okPL_cons_inv ha
  obtain ⟨cs, rfl, hcs⟩ := okP_agg_inv h1
  obtain ⟨_, _, rfl, h3, e3⟩ := okPL_cons_inv e1
  cases okPL_nil_inv e3
  obtain ⟨note, rfl, hnote⟩ := okP_one_inv h3
  obtain ⟨z, ⟨d, c, bs, mn, md, cn, cd⟩, hl, hle⟩ := scl_of hcs
  simp only at hl hle
  refine ⟨[.agg [.int .i64 d, .int .i64 c, .vs false z bs.length 2 (fun k => enc2 (bs.getD k default)), .int .i64 mn, .int .i64 md, .int .i64 cn, .int .i64 cd], .int .i64 note], ⟨leXL_le _ _ hle (by simp only [bndL_cons, bndL_nil, bnd_vs, bnd_int, and_self]), ⟨rfl, rfl⟩, trivial⟩, ?_⟩
  have self : lsP 2 enc2 bs.length 2 (fun k => [SV.int IntKind.i64 (bs.getD k default).fst, SV.int IntKind.i64 (bs.getD k default).snd]) bs := ⟨rfl, rfl, fun k _ => leXL_self _⟩
  have hk' : k (.bool true) [] := hk
  dsimp only [v3, K52_ct5, K52_ct6, K52_ct7, K52_ct8, K52_ct9, K52_ct11, K52_ct10, K52_ct12, K52_ct13, chkSC, hasC, trueC, diaFC, belowC, ofC, npowC, shiftC, ncmpC, natS, enc2, Int.toNat_zero, go_sem, reduceIte]
  simp only [t_all, forall_const, ne_eq, implies_true, Nat.reduceAdd, Nat.reduceLeDiff, reduceCtorEq, Nat.reduceEqDiff]
  refine ⟨bs, ⟨self, hl⟩, fun hx => ⟨by decide, ?_⟩, bs, fun hx => ⟨self, ?_, hl⟩, fun _ => ans_bool hk', fun hc => ?_⟩
  · simp only [Bool.or_eq_false_iff, Bool.not_eq_false', decide_eq_true_eq] at hx
    omega
  · simp only [Bool.or_eq_false_iff, Bool.not_eq_false', decide_eq_true_eq] at hx
    omega
  simp only [Bool.or_eq_false_iff, Bool.not_eq_false', decide_eq_true_eq, decide_eq_false_iff_not] at hc
  obtain ⟨⟨⟨hs, h1⟩, h16⟩, hh⟩ := hc
  obtain ⟨b, rfl⟩ := List.length_eq_one_iff.1 (show bs.length = 1 by omega)
  have hg0 : ([b] : List (Int × Int)).getD 0 default = b := rfl
  rw [hg0] at h16
  have hnt := hh
  simp only [hasS, Bool.and_eq_true, decide_eq_true_eq] at hnt
  have hnt : b.1 ≤ note ∧ note ≤ 139 := hnt
  have hr := okS_rng hs
  simp only at hr
  obtain ⟨k, m, p, q, ⟨hm, hp, hq⟩, hm1, hq1, hp1, hkm, x1, A1, A2, x2⟩ := dia_ex hs (by omega) hnt
  refine ⟨[b], ⟨self, hl⟩, by decide, by decide, ?_⟩
  simp only [diaF_is hs hh, hg0]
  generalize diaS ⟨d, c, [b], mn, md, cn, cd⟩ note = x at *
  obtain ⟨X, Y⟩ := x
  simp only at x1 x2 ⊢
  subst x1
  have hY : Y ≤ d ∧ c + k ≤ Y ∧ Y ≤ c + k + 1 := by omega
  have w1 : IntKind.i64.wrap (c + (k : Int) + 1) = c + k + 1 := IntWalk.i64_in _ (by omega)
  have w2 : IntKind.i64.wrap (c + (k : Int) - c) = k := by rw [IntWalk.i64_in _ (by omega)]; omega
  have w3 : IntKind.i64.wrap (d - c) = m := by rw [IntWalk.i64_in _ (by omega)]; omega
  have w4 : IntKind.i64.wrap (note - b.1) = p := by rw [IntWalk.i64_in _ (by omega)]; omega
  have u1 : IntKind.u64.wrap (k : Int) = k := IntWalk.u64_in _ (by omega)
  have u2 : IntKind.u64.wrap (m : Int) = m := IntWalk.u64_in _ (by omega)
  have u3 : IntKind.u64.wrap ((k : Int) + 1) = ((k + 1 : Nat) : Int) := by rw [IntWalk.u64_in _ (by omega)]; omega
  simp only [w1, w2, w3, w4, u1, u2, u3, ← hq]
  refine ⟨fun hbad => ?_, fun _ => ⟨⟨by decide, by simp⟩, ⟨by decide, by simp⟩, k, m, p, q, ⟨⟨rfl, rfl, rfl, rfl⟩, by omega, by omega, hp1, by omega⟩, by decide, by decide, k + 1, m, p, q, ⟨⟨rfl, rfl, rfl, rfl⟩, by omega, by omega, hp1, by omega⟩, by decide, by decide, ?_⟩⟩
  · exfalso
    simp only [Bool.or_eq_true, Bool.not_eq_true', decide_eq_true_eq, decide_eq_false_iff_not] at hbad
    rcases hbad with (((h9 | h9) | h9) | h9) | h9
    · exact h9 trivial
    · omega
    · omega
    · omega
    · omega
  rw [decide_eq_true A1, decide_eq_false (show ¬ (k + 1) ^ q * 2 ^ p ≤ m ^ q by omega)]
  have small : ∀ K : Nat, K ≤ 600000 → nl K ≤ 1 ∧ nl (K ^ q) ≤ 10 ∧ bitsN (K ^ q) ≤ 320 ∧ nl (K ^ q * 2 ^ p) ≤ 15 := fun K hK => by
    have hKQ := pow_small (Q := q) hK (by omega)
    exact ⟨nl_le.2 (by omega), nl_small hKQ (by decide), bitsN_le.2 hKQ, nl_small (sh_small hKQ) (by omega)⟩
  obtain ⟨m1, m2, m3, m4⟩ := small m (by omega)
  refine ⟨fun _ hA => absurd hA (by omega), fun hh => absurd hh (by simp), fun _ => ⟨fun hy => ?_, fun hy => ?_⟩⟩
  · have hA : k ^ q * 2 ^ p = m ^ q := by
      rcases x2 with ⟨_, h⟩ | ⟨h, _⟩
      · exact h
      · omega
    obtain ⟨k1, k2, k3, k4⟩ := small k (by omega)
    simp only [Int.toNat_natCast]
    refine ⟨⟨by omega, by omega⟩, k, q, ⟨padP_nl (by omega), rfl, rfl, by omega, by omega, by omega⟩, by decide, by decide, ⟨by omega, by omega⟩, m, q, ⟨padP_nl (by omega), rfl, rfl, by omega, by omega, by omega⟩, by decide, by decide, k ^ q, p, ⟨padP_nl (by omega), rfl, by omega, rfl, by omega⟩, by decide, by decide, k ^ q * 2 ^ p, m ^ q, ⟨padP_nl (by omega), rfl, by omega, padP_nl (by omega), rfl, by omega⟩, by decide, by decide, ?_⟩
    rw [hA, show ordN (m ^ q) (m ^ q) = 0 by unfold ordN; rw [if_neg (Nat.lt_irrefl _), if_neg (Nat.lt_irrefl _)]]
    exact ans_bool hk'
  · have hY1 : Y = c + k + 1 := by
      rcases x2 with ⟨h, _⟩ | ⟨h, _⟩
      · exact absurd h hy
      · exact h
    have w5 : IntKind.u64.wrap (IntKind.i64.wrap (Y - c)) = ((k + 1 : Nat) : Int) := by
      rw [IntWalk.i64_in (Y - c) (by omega), IntWalk.u64_in _ (by omega)]; omega
    obtain ⟨k1, k2, k3, k4⟩ := small (k + 1) (by omega)
    simp only [w5, Int.toNat_natCast]
    refine ⟨⟨by omega, by omega⟩, k + 1, q, ⟨padP_nl (by omega), rfl, rfl, by omega, by omega, by omega⟩, by decide, by decide, ⟨by omega, by omega⟩, m, q, ⟨padP_nl (by omega), rfl, rfl, by omega, by omega, by omega⟩, by decide, by decide, (k + 1) ^ q, p, ⟨padP_nl (by omega), rfl, by omega, rfl, by omega⟩, by decide, by decide, (k + 1) ^ q * 2 ^ p, m ^ q, ⟨padP_nl (by omega), rfl, by omega, padP_nl (by omega), rfl, by omega⟩, by decide, by decide, ?_⟩
    rw [show ordN ((k + 1) ^ q * 2 ^ p) (m ^ q) = 1 by unfold ordN; rw [if_neg (by omega), if_pos A2]]
    exact ans_bool hk'
end Go.Proofs.Ytmgfmkbniaepcaa
set_option linter.all false
namespace Go.Proofs.Ytmgfmkbniaepcaa
open Go Go.Vx Go.RowKit
set_option maxRecDepth 100000
theorem ownX2 : ownKnob Try.prog.godebug = none := by kernel_rfl
theorem laidX2 : laidOutB Try.prog = true := by kernel_rfl
theorem scalingExact_lifted (os : Os) (started : os.Started) (H : Type) (enc : TypeId × Value → H) :
    ReturnsInHanded {} Try.checked os 3 .any (Rows.scalingExactSpec.pre6 enc Try.prog Try.f3 Rows.scalingExactRow.domain false) (Rows.scalingExactSpec.post enc Try.prog Try.f3 false true false false) :=
  law_lifted (C := Try.checked) (tb := 4) ownX2 started (by kernel_rfl) Try.func3 laidX2
    (ChangeSpec.witness6 (enc := enc) (C := Try.checked) false ⟨#[], #[.agg #[.int .i64 0, .int .i64 0, .slice none 0 0, .int .i64 0, .int .i64 0, .int .i64 0, .int .i64 0], .int .i64 0], []⟩ 8 (by kernel_rfl) (by kernel_rfl) (by kernel_rfl) (by kernel_rfl))
    (by kernel_rfl) (by kernel_rfl) (by kernel_rfl) (by kernel_rfl) rfl (fun ds h => match ds, h with | [_, _], _ => ⟨rfl, rfl, rfl⟩) lawExact
theorem scalingExact_holds : Rows.ScalingExactSaid :=
  OpenClaim.holds_of_wide 3 Try.f3 rfl rfl rfl rfl rfl rfl rfl ⟨rfl, rfl, rfl, rfl, rfl⟩ rfl rfl rfl rfl rfl (by kernel_rfl) Try.func3 (by kernel_rfl)
    (of_decide_eq_true (by kernel_rfl)) (by unfold Func.isWrapper; first | (rw [if_pos (by decide +kernel)]; kernel_rfl) | (rw [if_neg (by decide +kernel)]; exact ⟨rfl, rfl⟩))
    (fun os started H enc _ => scalingExact_lifted os started H enc)
end Go.Proofs.Ytmgfmkbniaepcaa
