/- Intervals, walked: the program's functions. -/
import Derived.Test.YtijadllhfgajlaaMgX1e
import Derived.Test.YtijadllhfgajlaaRows
/- Intervals, walked: the program's functions. -/
set_option linter.all false
namespace Go.Proofs.Ytijadllhfgajlaa
open Go Go.Vx
set_option maxRecDepth 100000
set_option maxHeartbeats 4000000

def v16 : VF := { ntmps := 37, res := [.cell 4 true 2, .tmp 5], body :=
 (.seq (.region [u1 2 .box [.tm 0],
 u1 3 .box [.tm 1],
 u1 4 (.alloc [(.int .i64 0), (.int .i64 0)]) [],
 u1 5 .mov [.cn (.int .i64 0)]])
 (.seq (.seq (.region [u1 7 (.load true 2) [.tm 2],
 u1 8 (.load true 2) [.tm 3],
 u1 9 (.buildSlice 2 2 [(.int .i64 0), (.int .i64 0)] [(0, 2), (2, 2)]) [.tm 7, .tm 8],
 u1 10 (.call 25) [.tm 9],
 u1 6 .mov [.tm 10]])
 (.seq (.region [u1 11 .mov [.tm 6],
 u1 12 (.cmp .neq) [.tm 11, .cn (.int .i64 0)]])
 (.cond (.tm 12) (.seq (.region [u1 13 (.build [(.int .i64 0), (.int .i64 0)] []) [],
 u1 14 .mov [.tm 6],
 u0 (.store 2) [.tm 4, .tm 13],
 u1 5 .mov [.tm 14]])
 .ret)
  .skip)))
 (.seq (.seq (.region [u1 15 (.fieldAddr 1) [.tm 2],
 u1 16 (.load false 1) [.tm 15],
 u1 17 (.cmp .eql) [.tm 16, .cn (.int .i64 4611686018427387904)],
 u1 18 .mov [.tm 17],
 u2 19 18 true (.fieldAddr 1) [.tm 3],
 u2 20 18 true (.load false 1) [.tm 19],
 u2 21 18 true (.cmp .eql) [.tm 20, .cn (.int .i64 4611686018427387904)],
 u1 22 .and [.tm 18, .tm 21]])
 (.cond (.tm 22) (.seq (.region [u1 23 (.build [(.int .i64 0), (.int .i64 0)] []) [],
 u0 (.store 2) [.tm 4, .tm 23],
 u1 5 .mov [.cn (.int .i64 7)]])
 .ret)
  .skip))
 (.seq (.region [u1 24 (.fieldAddr 0) [.tm 2],
 u1 25 (.load false 1) [.tm 24],
 u1 26 (.fieldAddr 0) [.tm 3],
 u1 27 (.load false 1) [.tm 26],
 u1 28 (.ari .add) [.tm 25, .tm 27],
 u1 29 (.fieldAddr 1) [.tm 2],
 u1 30 (.load false 1) [.tm 29],
 u1 31 (.fieldAddr 1) [.tm 3],
 u1 32 (.load false 1) [.tm 31],
 u1 33 (.ari .add) [.tm 30, .tm 32],
 u1 34 (.call 28) [.tm 28, .tm 33],
 u1 35 (.ext 0) [.tm 34],
 u1 36 (.ext 1) [.tm 34],
 u0 (.store 2) [.tm 4, .tm 35],
 u1 5 .mov [.tm 36]])
 .ret)))) }
theorem v16_is : vfunc Try.prog Try.f16 = some v16 := by kernel_rfl
def v15 : VF := { ntmps := 26, res := [.cell 4 true 2, .tmp 5], body :=
 (.seq (.region [u1 2 .box [.tm 0],
 u1 3 .box [.tm 1],
 u1 4 (.alloc [(.int .i64 0), (.int .i64 0)]) [],
 u1 5 .mov [.cn (.int .i64 0)]])
 (.seq (.seq (.region [u1 7 (.load true 2) [.tm 2],
 u1 8 (.load true 2) [.tm 3],
 u1 9 (.buildSlice 2 2 [(.int .i64 0), (.int .i64 0)] [(0, 2), (2, 2)]) [.tm 7, .tm 8],
 u1 10 (.call 25) [.tm 9],
 u1 6 .mov [.tm 10]])
 (.seq (.region [u1 11 .mov [.tm 6],
 u1 12 (.cmp .neq) [.tm 11, .cn (.int .i64 0)]])
 (.cond (.tm 12) (.seq (.region [u1 13 (.build [(.int .i64 0), (.int .i64 0)] []) [],
 u1 14 .mov [.tm 6],
 u0 (.store 2) [.tm 4, .tm 13],
 u1 5 .mov [.tm 14]])
 .ret)
  .skip)))
 (.seq (.region [u1 15 (.load true 2) [.tm 2],
 u1 16 (.fieldAddr 1) [.tm 3],
 u1 17 (.load false 1) [.tm 16],
 u1 18 .neg [.tm 17],
 u1 19 (.fieldAddr 0) [.tm 3],
 u1 20 (.load false 1) [.tm 19],
 u1 21 .neg [.tm 20],
 u1 22 (.build [(.int .i64 0), (.int .i64 0)] [(0, 1), (1, 1)]) [.tm 18, .tm 21],
 u1 23 (.call 16) [.tm 15, .tm 22],
 u1 24 (.ext 0) [.tm 23],
 u1 25 (.ext 1) [.tm 23],
 u0 (.store 2) [.tm 4, .tm 24],
 u1 5 .mov [.tm 25]])
 .ret))) }
theorem v15_is : vfunc Try.prog Try.f15 = some v15 := by kernel_rfl
def v34 : VF := { ntmps := 41, res := [.cell 4 true 2, .tmp 5], body :=
 (.seq (.region [u1 2 .box [.tm 0],
 u1 3 .box [.tm 1],
 u1 4 (.alloc [(.int .i64 0), (.int .i64 0)]) [],
 u1 5 .mov [.cn (.int .i64 0)]])
 (.seq (.seq (.region [u1 8 (.load true 2) [.tm 2],
 u1 9 (.load true 2) [.tm 3],
 u1 10 (.buildSlice 2 2 [(.int .i64 0), (.int .i64 0)] [(0, 2), (2, 2)]) [.tm 8, .tm 9],
 u1 11 (.call 25) [.tm 10],
 u1 6 .mov [.tm 11]])
 (.seq (.region [u1 12 .mov [.tm 6],
 u1 13 (.cmp .neq) [.tm 12, .cn (.int .i64 0)]])
 (.cond (.tm 13) (.seq (.region [u1 14 (.build [(.int .i64 0), (.int .i64 0)] []) [],
 u1 15 .mov [.tm 6],
 u0 (.store 2) [.tm 4, .tm 14],
 u1 5 .mov [.tm 15]])
 .ret)
  .skip)))
 (.seq (.draw [(7, .arr 4 3 [(.bool false), (.int .u64 0), (.int .u64 0), (.bool false), (.int .u64 0), (.int .u64 0), (.bool false), (.int .u64 0), (.int .u64 0), (.bool false), (.int .u64 0), (.int .u64 0)])] [w1 16 (.fieldAddr 0) [.tm 2],
 w1 17 (.load false 1) [.tm 16],
 w1 18 (.fieldAddr 0) [.tm 3],
 w1 19 (.load false 1) [.tm 18],
 w1 21 (.fieldAddr 0) [.tm 2],
 w1 22 (.load false 1) [.tm 21],
 w1 23 (.fieldAddr 1) [.tm 3],
 w1 24 (.load false 1) [.tm 23],
 w1 26 (.fieldAddr 1) [.tm 2],
 w1 27 (.load false 1) [.tm 26],
 w1 28 (.fieldAddr 0) [.tm 3],
 w1 29 (.load false 1) [.tm 28],
 w1 31 (.fieldAddr 1) [.tm 2],
 w1 32 (.load false 1) [.tm 31],
 w1 33 (.fieldAddr 1) [.tm 3],
 w1 34 (.load false 1) [.tm 33],
 w1 20 (.call 26) [.tm 17, .tm 19],
 w1 25 (.call 26) [.tm 22, .tm 24],
 w1 30 (.call 26) [.tm 27, .tm 29],
 w1 35 (.call 26) [.tm 32, .tm 34],
 w1 36 (.build [(.bool false), (.int .u64 0), (.int .u64 0), (.bool false), (.int .u64 0), (.int .u64 0), (.bool false), (.int .u64 0), (.int .u64 0), (.bool false), (.int .u64 0), (.int .u64 0)] [(0, 3), (3, 3), (6, 3), (9, 3)]) [.tm 20, .tm 25, .tm 30, .tm 35],
 w0 (.store 12) [.tm 7, .tm 36]])
 (.seq (.region [u1 37 (.sliceArr 4 3 false false) [.tm 7],
 u1 38 (.call 42) [.cn (.int .u64 1), .tm 37],
 u1 39 (.ext 0) [.tm 38],
 u1 40 (.ext 1) [.tm 38],
 u0 (.store 2) [.tm 4, .tm 39],
 u1 5 .mov [.tm 40]])
 .ret)))) }
theorem v34_is : vfunc Try.prog Try.f34 = some v34 := by kernel_rfl
def v14 : VF := { ntmps := 89, res := [.cell 4 true 2, .tmp 5], body :=
 (.seq (.region [u1 2 .box [.tm 0],
 u1 3 .box [.tm 1],
 u1 4 (.alloc [(.int .i64 0), (.int .i64 0)]) [],
 u1 5 .mov [.cn (.int .i64 0)]])
 (.seq (.seq (.region [u1 13 (.load true 2) [.tm 2],
 u1 14 (.load true 2) [.tm 3],
 u1 15 (.buildSlice 2 2 [(.int .i64 0), (.int .i64 0)] [(0, 2), (2, 2)]) [.tm 13, .tm 14],
 u1 16 (.call 25) [.tm 15],
 u1 6 .mov [.tm 16]])
 (.seq (.region [u1 17 .mov [.tm 6],
 u1 18 (.cmp .neq) [.tm 17, .cn (.int .i64 0)]])
 (.cond (.tm 18) (.seq (.region [u1 19 (.build [(.int .i64 0), (.int .i64 0)] []) [],
 u1 20 .mov [.tm 6],
 u0 (.store 2) [.tm 4, .tm 19],
 u1 5 .mov [.tm 20]])
 .ret)
  .skip)))
 (.seq (.seq (.region [u1 21 (.fieldAddr 0) [.tm 3],
 u1 22 (.load false 1) [.tm 21],
 u1 23 (.cmp .leq) [.tm 22, .cn (.int .i64 0)],
 u1 24 .mov [.tm 23],
 u2 25 24 true (.fieldAddr 1) [.tm 3],
 u2 26 24 true (.load false 1) [.tm 25],
 u2 27 24 true (.cmp .geq) [.tm 26, .cn (.int .i64 0)],
 u1 28 .and [.tm 24, .tm 27]])
 (.cond (.tm 28) (.seq (.region [u1 29 (.build [(.int .i64 0), (.int .i64 0)] []) [],
 u0 (.store 2) [.tm 4, .tm 29],
 u1 5 .mov [.cn (.int .i64 9)]])
 .ret)
  .skip))
 (.seq (.seq (.region [u1 30 (.fieldAddr 1) [.tm 3],
 u1 31 (.load false 1) [.tm 30],
 u1 32 (.cmp .lss) [.tm 31, .cn (.int .i64 0)]])
 (.cond (.tm 32) (.draw [] [w1 33 (.fieldAddr 1) [.tm 2],
 w1 34 (.load false 1) [.tm 33],
 w1 35 .neg [.tm 34],
 w1 36 (.fieldAddr 0) [.tm 2],
 w1 37 (.load false 1) [.tm 36],
 w1 38 .neg [.tm 37],
 w1 39 (.build [(.int .i64 0), (.int .i64 0)] [(0, 1), (1, 1)]) [.tm 35, .tm 38],
 w1 40 (.fieldAddr 1) [.tm 3],
 w1 41 (.load false 1) [.tm 40],
 w1 42 .neg [.tm 41],
 w1 43 (.fieldAddr 0) [.tm 3],
 w1 44 (.load false 1) [.tm 43],
 w1 45 .neg [.tm 44],
 w1 46 (.build [(.int .i64 0), (.int .i64 0)] [(0, 1), (1, 1)]) [.tm 42, .tm 45],
 ⟨u0 (.store 2) [.tm 2, .tm 39], [.tm 40, .tm 43]⟩,
 w0 (.store 2) [.tm 3, .tm 46]])
  .skip))
 (.seq (.draw [] [w1 47 (.fieldAddr 1) [.tm 3],
 w1 48 (.load false 1) [.tm 47],
 w1 49 (.fieldAddr 0) [.tm 3],
 w1 50 (.load false 1) [.tm 49],
 w1 7 .mov [.tm 48],
 w1 8 .mov [.tm 50]])
 (.seq (.seq (.region [u1 51 (.fieldAddr 0) [.tm 2],
 u1 52 (.load false 1) [.tm 51],
 u1 53 (.cmp .lss) [.tm 52, .cn (.int .i64 0)]])
 (.cond (.tm 53) (.region [u1 54 (.fieldAddr 0) [.tm 3],
 u1 55 (.load false 1) [.tm 54],
 u1 7 .mov [.tm 55]])
  .skip))
 (.seq (.seq (.region [u1 56 (.fieldAddr 1) [.tm 2],
 u1 57 (.load false 1) [.tm 56],
 u1 58 (.cmp .lss) [.tm 57, .cn (.int .i64 0)]])
 (.cond (.tm 58) (.region [u1 59 (.fieldAddr 1) [.tm 3],
 u1 60 (.load false 1) [.tm 59],
 u1 8 .mov [.tm 60]])
  .skip))
 (.seq (.region [u1 62 (.fieldAddr 0) [.tm 2],
 u1 63 (.load false 1) [.tm 62],
 u1 64 (.call 26) [.tm 63, .cn (.int .i64 1)],
 u1 65 .mov [.tm 7],
 u1 66 (.conv .u64) [.tm 65],
 u1 67 (.call 27) [.tm 64, .tm 66, .cn (.bool false)],
 u1 61 .mov [.tm 67],
 u1 68 (.ext 0) [.tm 61],
 u1 69 (.ext 1) [.tm 61],
 u1 9 .mov [.tm 68],
 u1 10 .mov [.tm 69]])
 (.seq (.region [u1 71 (.fieldAddr 1) [.tm 2],
 u1 72 (.load false 1) [.tm 71],
 u1 73 (.call 26) [.tm 72, .cn (.int .i64 1)],
 u1 74 .mov [.tm 8],
 u1 75 (.conv .u64) [.tm 74],
 u1 76 (.call 27) [.tm 73, .tm 75, .cn (.bool true)],
 u1 70 .mov [.tm 76],
 u1 77 (.ext 0) [.tm 70],
 u1 78 (.ext 1) [.tm 70],
 u1 11 .mov [.tm 77],
 u1 12 .mov [.tm 78]])
 (.seq (.seq (.region [u1 79 .mov [.tm 10],
 u1 80 .not [.tm 79],
 u1 81 .mov [.tm 80],
 u2 82 81 false .mov [.tm 12],
 u2 83 81 false .not [.tm 82],
 u1 84 .or [.tm 81, .tm 83]])
 (.cond (.tm 84) (.seq (.region [u1 85 (.build [(.int .i64 0), (.int .i64 0)] []) [],
 u0 (.store 2) [.tm 4, .tm 85],
 u1 5 .mov [.cn (.int .i64 7)]])
 .ret)
  .skip))
 (.seq (.region [u1 86 .mov [.tm 9],
 u1 87 .mov [.tm 11],
 u1 88 (.build [(.int .i64 0), (.int .i64 0)] [(0, 1), (1, 1)]) [.tm 86, .tm 87],
 u0 (.store 2) [.tm 4, .tm 88],
 u1 5 .mov [.cn (.int .i64 0)]])
 .ret))))))))))) }
theorem v14_is : vfunc Try.prog Try.f14 = some v14 := by kernel_rfl
def v36 : VF := { ntmps := 45, res := [.cell 6 true 2, .tmp 7], body :=
 (.seq (.region [u1 3 .box [.tm 0],
 u1 6 (.alloc [(.int .i64 0), (.int .i64 0)]) [],
 u1 7 .mov [.cn (.int .i64 0)]])
 (.seq (.region [u1 9 (.load true 2) [.tm 3],
 u1 10 (.buildSlice 2 1 [(.int .i64 0), (.int .i64 0)] [(0, 2)]) [.tm 9],
 u1 11 (.call 25) [.tm 10],
 u1 8 .mov [.tm 11]])
 (.seq (.block 0 (.seq (.region [u1 13 .mov [.tm 8],
 u1 14 (.cmp .neq) [.tm 13, .cn (.int .i64 0)],
 u1 12 .mov [.tm 14]])
 (.cond (.tm 12) (.seq (.region [u1 15 (.build [(.int .i64 0), (.int .i64 0)] []) [],
 u1 16 .mov [.tm 8],
 u0 (.store 2) [.tm 6, .tm 15],
 u1 7 .mov [.tm 16]])
 .ret)
  (.seq (.region [u1 18 .mov [.tm 2],
 u1 19 (.cmp .lss) [.tm 18, .cn (.int .i64 1)],
 u1 20 .mov [.tm 19],
 u2 21 20 false .mov [.tm 2],
 u2 22 20 false (.call 37) [.tm 21],
 u2 23 20 false .not [.tm 22],
 u1 24 .or [.tm 20, .tm 23],
 u1 25 .mov [.tm 24],
 u2 26 25 false .mov [.tm 1],
 u2 27 25 false (.call 37) [.tm 26],
 u2 28 25 false .not [.tm 27],
 u1 29 .or [.tm 25, .tm 28],
 u1 17 .mov [.tm 29]])
 (.cond (.tm 17) (.seq (.region [u1 30 (.build [(.int .i64 0), (.int .i64 0)] []) [],
 u0 (.store 2) [.tm 6, .tm 30],
 u1 7 .mov [.cn (.int .i64 2)]])
 .ret)
  .skip)))))
 (.seq (.draw [] [w1 31 .mov [.tm 2],
 w1 32 (.conv .u64) [.tm 31],
 w1 33 (.fieldAddr 0) [.tm 3],
 w1 34 (.load false 1) [.tm 33],
 w1 35 .mov [.tm 1],
 w1 37 (.fieldAddr 1) [.tm 3],
 w1 38 (.load false 1) [.tm 37],
 w1 39 .mov [.tm 1],
 w1 36 (.call 26) [.tm 34, .tm 35],
 w1 40 (.call 26) [.tm 38, .tm 39],
 w1 41 (.buildSlice 3 2 [(.bool false), (.int .u64 0), (.int .u64 0)] [(0, 3), (3, 3)]) [.tm 36, .tm 40],
 w1 42 (.call 42) [.tm 32, .tm 41],
 w1 43 (.ext 0) [.tm 42],
 w1 44 (.ext 1) [.tm 42],
 w0 (.store 2) [.tm 6, .tm 43],
 w1 7 .mov [.tm 44]])
 .ret)))) }
theorem v36_is : vfunc Try.prog Try.f36 = some v36 := by kernel_rfl


/-- Of two intervals, or one. -/
def iv2C (f : Iv → Iv → Iv × Int) : Ctr := { alias := false, of := fun a => match a with
  | [.agg [.int .i64 x, .int .i64 y], .agg [.int .i64 z, .int .i64 w]] => .fin (.tup [.agg (enc2 (f (x, y) (z, w)).1), .int .i64 (f (x, y) (z, w)).2]) []
  | _ => noC }
def ivoC (f : Iv → Iv × Int) : Ctr := { alias := false, of := fun a => match a with
  | [.agg [.int .i64 x, .int .i64 y]] => .fin (.tup [.agg (enc2 (f (x, y)).1), .int .i64 (f (x, y)).2]) []
  | _ => noC }
def addC := iv2C addF
def subC := iv2C subF
def mulC := iv2C mulF
def quoC := iv2C quoF
def sclC : Ctr := { alias := false, of := fun a => match a with
  | [.agg [.int .i64 x, .int .i64 y], .int .i64 n, .int .i64 d] => .fin (.tup [.agg (enc2 (sclF (x, y) n d).1), .int .i64 (sclF (x, y) n d).2]) []
  | _ => noC }
def P3 : Env := { ct := fun n => match n with | 37 => some numC | 25 => some ivlC | 26 => some timC | 27 => some overC | 42 => some spanC | 28 => some fitC | _ => none, fn := fun _ => none, meth := fun _ _ => none }
theorem P3_ct25 : P3.ct 25 = some ivlC := rfl
theorem P3_ct28 : P3.ct 28 = some fitC := rfl
theorem P3_ok : EnvOk Try.prog P3 := by
  refine ⟨fun f c h => ?_, fun f vf h => ?_, (fun _ _ _ h => by cases h), by kernel_rfl, (fun _ h => by cases h)⟩
  · simp only [P3] at h
    split at h
    · cases h; exact ⟨num_ok, Try.f37, Try.func37, by kernel_rfl, by kernel_rfl⟩
    · cases h; exact ⟨ivl_ok, Try.f25, Try.func25, by kernel_rfl, by kernel_rfl⟩
    · cases h; exact ⟨tim_ok, Try.f26, Try.func26, by kernel_rfl, by kernel_rfl⟩
    · cases h; exact ⟨over_ok, Try.f27, Try.func27, by kernel_rfl, by kernel_rfl⟩
    · cases h; exact ⟨span_ok, Try.f42, Try.func42, by kernel_rfl, by kernel_rfl⟩
    · cases h; exact ⟨fit_ok, Try.f28, Try.func28, by kernel_rfl, by kernel_rfl⟩
    · cases h
  · cases h


theorem ans_iv {k : SV → List HO → Prop} {al : Bool} {hp : List HO} {r : Iv × Int} (h : k (.tup [.agg (enc2 r.1), .int .i64 r.2]) []) : answers al k (.tup [.agg [.int .i64 r.1.1, .int .i64 r.1.2], .int .i64 r.2]) hp :=
  ans_le (show k _ [] from h) (le_self (.tup [.agg (enc2 r.1), .int .i64 r.2]) ⟨⟨trivial, trivial, trivial⟩, trivial, trivial⟩) (fun _ => by simp [enc2, freshS, freshL])
theorem big_mul {a b : Int} (ha : -9223372036854775808 ≤ a ∧ a ≤ 9223372036854775808) (hb : -9223372036854775808 ≤ b ∧ b ≤ 9223372036854775808) : big (a * b) := by
  unfold big
  rw [Int.natAbs_mul]
  have := Nat.mul_le_mul (show a.natAbs ≤ 9223372036854775808 by omega) (show b.natAbs ≤ 9223372036854775808 by omega)
  omega
theorem big1 {a : Int} (ha : -9223372036854775808 ≤ a ∧ a ≤ 9223372036854775808) : big a := by
  unfold big; omega
theorem neg_in {a : Int} (h : -4611686018427387904 ≤ a ∧ a ≤ 4611686018427387904) : IntKind.i64.wrap (0 - a) = -a := by rw [IntWalk.i64_in _ (by omega)]; omega

theorem add_ok : addC.ok Try.prog 16 := by
  refine contract Try.func16 v16_is P3_ok 200 addC fun args k h => ⟨args, ?_⟩
  simp only [addC, iv2C] at h
  split at h
  · rename_i x y z w
    refine ⟨by simp [leL, le], ?_⟩
    (try dsimp only [v16, P3_ct25, P3_ct28, ivlC, fitC, enc2, go_sem, Option.bind, Option.map, List.append_nil, Nat.beq, List.cons_append, List.nil_append, List.append_eq, List.map_cons, List.map_nil, ite_self, reduceIte])
    (try simp only [true_and, and_true, imp_self, implies_true, decide_eq_true_eq, decide_eq_false_iff_not, Nat.reduceAdd, Nat.reduceLeDiff, Bool.not_not, reduceCtorEq, false_imp_iff, Bool.not_eq_true', Bool.not_eq_false', Bool.false_eq_true, and_self, forall_const, ne_eq, not_false_eq_true, Nat.reduceEqDiff])
    have h : k (.tup [.agg (enc2 (addF (x, y) (z, w)).1), .int .i64 (addF (x, y) (z, w)).2]) [] := h
    refine ⟨by decide, [(x, y), (z, w)], ⟨⟨rfl, rfl, fun k hk => match k, hk with | 0, _ => leXL_self _ | 1, _ => leXL_self _⟩, by simp⟩, fun hc => ?_, fun hc => ?_⟩
    · rw [addF, if_pos hc] at h
      exact ans_iv (r := errI (ivE [(x, y), (z, w)])) h
    · obtain ⟨⟨h1, h2, h3⟩, h4, h5, h6⟩ := ivE2 hc
      dsimp only at h1 h2 h3 h4 h5 h6
      rw [addF, if_neg (by rw [hc]; simp)] at h
      dsimp only at h
      refine ⟨fun hm => ?_, fun hm => ⟨by decide, by decide, ?_⟩⟩
      · rw [Bool.and_eq_true, decide_eq_true_eq, decide_eq_true_eq] at hm
        have : numOk (y + w) = false := by
          rw [Bool.eq_false_iff]; intro hh; have := numOk_iff.1 hh; omega
        rw [fitF, this, Bool.and_false] at h
        exact ans_iv (r := ((0, 0), 7)) h
      · rw [Bool.and_eq_false_iff, decide_eq_false_iff_not, decide_eq_false_iff_not] at hm
        rw [IntWalk.i64_in (x + z) (by omega), IntWalk.i64_in (y + w) (by omega)]
        exact ans_iv h
  · exact h.1.elim

def P4 : Env := { ct := fun n => match n with | 37 => some numC | 25 => some ivlC | 26 => some timC | 27 => some overC | 42 => some spanC | 28 => some fitC | 16 => some addC | _ => none, fn := fun _ => none, meth := fun _ _ => none }
theorem P4_ct37 : P4.ct 37 = some numC := rfl
theorem P4_ct25 : P4.ct 25 = some ivlC := rfl
theorem P4_ct26 : P4.ct 26 = some timC := rfl
theorem P4_ct27 : P4.ct 27 = some overC := rfl
theorem P4_ct42 : P4.ct 42 = some spanC := rfl
theorem P4_ct16 : P4.ct 16 = some addC := rfl
theorem P4_ok : EnvOk Try.prog P4 := by
  refine ⟨fun f c h => ?_, fun f vf h => ?_, (fun _ _ _ h => by cases h), by kernel_rfl, (fun _ h => by cases h)⟩
  · simp only [P4] at h
    split at h
    · cases h; exact ⟨num_ok, Try.f37, Try.func37, by kernel_rfl, by kernel_rfl⟩
    · cases h; exact ⟨ivl_ok, Try.f25, Try.func25, by kernel_rfl, by kernel_rfl⟩
    · cases h; exact ⟨tim_ok, Try.f26, Try.func26, by kernel_rfl, by kernel_rfl⟩
    · cases h; exact ⟨over_ok, Try.f27, Try.func27, by kernel_rfl, by kernel_rfl⟩
    · cases h; exact ⟨span_ok, Try.f42, Try.func42, by kernel_rfl, by kernel_rfl⟩
    · cases h; exact ⟨fit_ok, Try.f28, Try.func28, by kernel_rfl, by kernel_rfl⟩
    · cases h; exact ⟨add_ok, Try.f16, Try.func16, by kernel_rfl, by kernel_rfl⟩
    · cases h
  · cases h


theorem sub_ok : subC.ok Try.prog 15 := by
  refine contract Try.func15 v15_is P4_ok 200 subC fun args k h => ⟨args, ?_⟩
  simp only [subC, iv2C] at h
  split at h
  · rename_i x y z w
    refine ⟨by simp [leL, le], ?_⟩
    (try dsimp only [v15, P4_ct25, P4_ct16, ivlC, addC, iv2C, enc2, go_sem, Option.bind, Option.map, List.append_nil, Nat.beq, List.cons_append, List.nil_append, List.append_eq, List.map_cons, List.map_nil, ite_self, reduceIte])
    (try simp only [true_and, and_true, imp_self, implies_true, decide_eq_true_eq, decide_eq_false_iff_not, Nat.reduceAdd, Nat.reduceLeDiff, Bool.not_not, reduceCtorEq, false_imp_iff, Bool.not_eq_true', Bool.not_eq_false', Bool.false_eq_true, and_self, forall_const, ne_eq, not_false_eq_true, Nat.reduceEqDiff])
    have h : k (.tup [.agg (enc2 (subF (x, y) (z, w)).1), .int .i64 (subF (x, y) (z, w)).2]) [] := h
    refine ⟨by decide, [(x, y), (z, w)], ⟨⟨rfl, rfl, fun k hk => match k, hk with | 0, _ => leXL_self _ | 1, _ => leXL_self _⟩, by simp⟩, fun hc => ?_, fun hc => ?_⟩
    · rw [subF, if_pos hc] at h
      exact ans_iv (r := errI (ivE [(x, y), (z, w)])) h
    · obtain ⟨⟨h1, h2, h3⟩, h4, h5, h6⟩ := ivE2 hc
      dsimp only at h1 h2 h3 h4 h5 h6
      rw [subF, if_neg (by rw [hc]; simp)] at h
      dsimp only at h
      rw [neg_in h4, neg_in h5]
      exact ⟨by decide, by decide, ans_iv h⟩
  · exact h.1.elim

theorem mul_ok : mulC.ok Try.prog 34 := by
  refine contract Try.func34 v34_is P4_ok 200 mulC fun args k h => ⟨args, ?_⟩
  simp only [mulC, iv2C] at h
  split at h
  · rename_i x y z w
    refine ⟨by simp [leL, le], ?_⟩
    (try dsimp only [v34, P4_ct25, P4_ct26, P4_ct42, ivlC, timC, spanC, longE, enc2, go_sem, Option.bind, Option.map, List.append_nil, Nat.beq, List.cons_append, List.nil_append, List.append_eq, List.map_cons, List.map_nil, ite_self, reduceIte])
    (try simp only [true_and, and_true, imp_self, implies_true, decide_eq_true_eq, decide_eq_false_iff_not, Nat.reduceAdd, Nat.reduceLeDiff, Bool.not_not, reduceCtorEq, false_imp_iff, Bool.not_eq_true', Bool.not_eq_false', Bool.false_eq_true, and_self, forall_const, ne_eq, not_false_eq_true, Nat.reduceEqDiff])
    have h : k (.tup [.agg (enc2 (mulF (x, y) (z, w)).1), .int .i64 (mulF (x, y) (z, w)).2]) [] := h
    refine ⟨by decide, [(x, y), (z, w)], ⟨⟨rfl, rfl, fun k hk => match k, hk with | 0, _ => leXL_self _ | 1, _ => leXL_self _⟩, by simp⟩, fun hc => ?_, fun hc => ?_⟩
    · rw [mulF, if_pos hc] at h
      exact ans_iv (r := errI (ivE [(x, y), (z, w)])) h
    · obtain ⟨⟨h1, h2, h3⟩, h4, h5, h6⟩ := ivE2 hc
      dsimp only at h1 h2 h3 h4 h5 h6
      rw [mulF, if_neg (by rw [hc]; simp)] at h
      dsimp only at h
      refine ⟨⟨⟨by omega, by omega⟩, by omega, by omega⟩, ⟨⟨by omega, by omega⟩, by omega, by omega⟩, ⟨⟨by omega, by omega⟩, by omega, by omega⟩, ⟨⟨by omega, by omega⟩, by omega, by omega⟩, ?_⟩
      (try dsimp only [P4_ct42, spanC, enc2, go_sem, Option.bind, Option.map, List.append_nil, Nat.beq, List.cons_append, List.nil_append, List.append_eq, List.map_cons, List.map_nil, ite_self, reduceIte])
      (try simp only [true_and, and_true, imp_self, implies_true, decide_eq_true_eq, decide_eq_false_iff_not, Nat.reduceAdd, Nat.reduceLeDiff, Bool.not_not, reduceCtorEq, false_imp_iff, Bool.not_eq_true', Bool.not_eq_false', Bool.false_eq_true, and_self, forall_const, ne_eq, not_false_eq_true, Nat.reduceEqDiff])
      refine ⟨by decide, ?_⟩
      (try dsimp only [P4_ct42, spanC, enc2, go_sem, Option.bind, Option.map, List.append_nil, Nat.beq, List.cons_append, List.nil_append, List.append_eq, List.map_cons, List.map_nil, ite_self, reduceIte])
      (try simp only [true_and, and_true, imp_self, implies_true, decide_eq_true_eq, decide_eq_false_iff_not, Nat.reduceAdd, Nat.reduceLeDiff, Bool.not_not, reduceCtorEq, false_imp_iff, Bool.not_eq_true', Bool.not_eq_false', Bool.false_eq_true, and_self, forall_const, ne_eq, not_false_eq_true, Nat.reduceEqDiff])
      refine ⟨x * z, [x * w, y * z, y * w], ⟨⟨rfl, rfl, fun k hk => match k, hk with | 0, _ => leXL_self _ | 1, _ => leXL_self _ | 2, _ => leXL_self _ | 3, _ => leXL_self _⟩, by simp, ?_, by decide, by decide⟩, by decide, by decide, ans_iv h⟩
      intro p hp
      simp only [List.mem_cons, List.not_mem_nil, or_false] at hp
      rcases hp with rfl | rfl | rfl | rfl <;> exact big_mul (by omega) (by omega)
  · exact h.1.elim

theorem quo_ok : quoC.ok Try.prog 14 := by
  refine contract Try.func14 v14_is P4_ok 300 quoC fun args k h => ⟨args, ?_⟩
  simp only [quoC, iv2C] at h
  split at h
  · rename_i x y z w
    refine ⟨by simp [leL, le], ?_⟩
    (try dsimp only [v14, P4_ct25, P4_ct26, P4_ct27, ivlC, timC, overC, longE, enc2, go_sem, Option.bind, Option.map, List.append_nil, Nat.beq, List.cons_append, List.nil_append, List.append_eq, List.map_cons, List.map_nil, ite_self, reduceIte])
    (try simp only [true_and, and_true, imp_self, implies_true, decide_eq_true_eq, decide_eq_false_iff_not, Nat.reduceAdd, Nat.reduceLeDiff, Bool.not_not, reduceCtorEq, false_imp_iff, Bool.not_eq_true', Bool.not_eq_false', Bool.false_eq_true, and_self, forall_const, ne_eq, not_false_eq_true, Nat.reduceEqDiff])
    have h : k (.tup [.agg (enc2 (quoF (x, y) (z, w)).1), .int .i64 (quoF (x, y) (z, w)).2]) [] := h
    refine ⟨by decide, [(x, y), (z, w)], ⟨⟨rfl, rfl, fun k hk => match k, hk with | 0, _ => leXL_self _ | 1, _ => leXL_self _⟩, by simp⟩, fun hc => ?_, fun hc => ?_⟩
    · rw [quoF, if_pos hc] at h
      exact ans_iv (r := errI (ivE [(x, y), (z, w)])) h
    · obtain ⟨⟨h1, h2, h3⟩, h4, h5, h6⟩ := ivE2 hc
      dsimp only at h1 h2 h3 h4 h5 h6
      rw [quoF, if_neg (by rw [hc]; simp)] at h
      dsimp only at h
      simp only [neg_in h1, neg_in h2, neg_in h4, neg_in h5, Int.mul_one]
      refine ⟨fun hm => ?_, fun hm => ⟨fun hw => ?_, fun hw => ?_⟩⟩
      · rw [Bool.and_eq_true, decide_eq_true_eq, decide_eq_true_eq] at hm
        rw [if_pos hm] at h
        exact ans_iv (r := errI 9) h
      · rw [Bool.and_eq_false_iff, decide_eq_false_iff_not, decide_eq_false_iff_not] at hm
        rw [if_neg (by omega), if_pos hw] at h
        unfold divPos at h
        dsimp only at h
        refine ⟨fun hp => ⟨fun hq => ?_, fun hq => ?_⟩, fun hp => ⟨fun hq => ?_, fun hq => ?_⟩⟩
        · rw [if_pos hp, if_pos hq] at h
          simp (disch := omega) only [IntWalk.u64_in]
          refine ⟨⟨⟨by omega, by omega⟩, by omega, by omega⟩, _, ⟨longP_self _, big1 (by omega), by omega, by omega⟩, by decide, by decide, ⟨⟨by omega, by omega⟩, by omega, by omega⟩, _, ⟨longP_self _, big1 (by omega), by omega, by omega⟩, by decide, by decide, fun hb => ?_, fun hb => ?_⟩
          · rw [spanR, if_neg (by rw [← Bool.not_and, Bool.not_eq_true'] at hb; rw [hb]; simp)] at h
            exact ans_iv (r := ((0, 0), 7)) h
          · rw [spanR, if_pos (by rw [← Bool.not_and, Bool.not_eq_false'] at hb; exact hb)] at h
            exact ans_iv (r := ((_, _), 0)) h
        · rw [if_pos hp, if_neg hq] at h
          simp (disch := omega) only [IntWalk.u64_in]
          refine ⟨⟨⟨by omega, by omega⟩, by omega, by omega⟩, _, ⟨longP_self _, big1 (by omega), by omega, by omega⟩, by decide, by decide, ⟨⟨by omega, by omega⟩, by omega, by omega⟩, _, ⟨longP_self _, big1 (by omega), by omega, by omega⟩, by decide, by decide, fun hb => ?_, fun hb => ?_⟩
          · rw [spanR, if_neg (by rw [← Bool.not_and, Bool.not_eq_true'] at hb; rw [hb]; simp)] at h
            exact ans_iv (r := ((0, 0), 7)) h
          · rw [spanR, if_pos (by rw [← Bool.not_and, Bool.not_eq_false'] at hb; exact hb)] at h
            exact ans_iv (r := ((_, _), 0)) h
        · rw [if_neg hp, if_pos hq] at h
          simp (disch := omega) only [IntWalk.u64_in]
          refine ⟨⟨⟨by omega, by omega⟩, by omega, by omega⟩, _, ⟨longP_self _, big1 (by omega), by omega, by omega⟩, by decide, by decide, ⟨⟨by omega, by omega⟩, by omega, by omega⟩, _, ⟨longP_self _, big1 (by omega), by omega, by omega⟩, by decide, by decide, fun hb => ?_, fun hb => ?_⟩
          · rw [spanR, if_neg (by rw [← Bool.not_and, Bool.not_eq_true'] at hb; rw [hb]; simp)] at h
            exact ans_iv (r := ((0, 0), 7)) h
          · rw [spanR, if_pos (by rw [← Bool.not_and, Bool.not_eq_false'] at hb; exact hb)] at h
            exact ans_iv (r := ((_, _), 0)) h
        · rw [if_neg hp, if_neg hq] at h
          simp (disch := omega) only [IntWalk.u64_in]
          refine ⟨⟨⟨by omega, by omega⟩, by omega, by omega⟩, _, ⟨longP_self _, big1 (by omega), by omega, by omega⟩, by decide, by decide, ⟨⟨by omega, by omega⟩, by omega, by omega⟩, _, ⟨longP_self _, big1 (by omega), by omega, by omega⟩, by decide, by decide, fun hb => ?_, fun hb => ?_⟩
          · rw [spanR, if_neg (by rw [← Bool.not_and, Bool.not_eq_true'] at hb; rw [hb]; simp)] at h
            exact ans_iv (r := ((0, 0), 7)) h
          · rw [spanR, if_pos (by rw [← Bool.not_and, Bool.not_eq_false'] at hb; exact hb)] at h
            exact ans_iv (r := ((_, _), 0)) h
      · rw [Bool.and_eq_false_iff, decide_eq_false_iff_not, decide_eq_false_iff_not] at hm
        rw [if_neg (by omega), if_neg hw] at h
        unfold divPos at h
        dsimp only at h
        refine ⟨fun hp => ⟨fun hq => ?_, fun hq => ?_⟩, fun hp => ⟨fun hq => ?_, fun hq => ?_⟩⟩
        · rw [if_pos hp, if_pos hq] at h
          simp (disch := omega) only [IntWalk.u64_in]
          refine ⟨⟨⟨by omega, by omega⟩, by omega, by omega⟩, _, ⟨longP_self _, big1 (by omega), by omega, by omega⟩, by decide, by decide, ⟨⟨by omega, by omega⟩, by omega, by omega⟩, _, ⟨longP_self _, big1 (by omega), by omega, by omega⟩, by decide, by decide, fun hb => ?_, fun hb => ?_⟩
          · rw [spanR, if_neg (by rw [← Bool.not_and, Bool.not_eq_true'] at hb; rw [hb]; simp)] at h
            exact ans_iv (r := ((0, 0), 7)) h
          · rw [spanR, if_pos (by rw [← Bool.not_and, Bool.not_eq_false'] at hb; exact hb)] at h
            exact ans_iv (r := ((_, _), 0)) h
        · rw [if_pos hp, if_neg hq] at h
          simp (disch := omega) only [IntWalk.u64_in]
          refine ⟨⟨⟨by omega, by omega⟩, by omega, by omega⟩, _, ⟨longP_self _, big1 (by omega), by omega, by omega⟩, by decide, by decide, ⟨⟨by omega, by omega⟩, by omega, by omega⟩, _, ⟨longP_self _, big1 (by omega), by omega, by omega⟩, by decide, by decide, fun hb => ?_, fun hb => ?_⟩
          · rw [spanR, if_neg (by rw [← Bool.not_and, Bool.not_eq_true'] at hb; rw [hb]; simp)] at h
            exact ans_iv (r := ((0, 0), 7)) h
          · rw [spanR, if_pos (by rw [← Bool.not_and, Bool.not_eq_false'] at hb; exact hb)] at h
            exact ans_iv (r := ((_, _), 0)) h
        · rw [if_neg hp, if_pos hq] at h
          simp (disch := omega) only [IntWalk.u64_in]
          refine ⟨⟨⟨by omega, by omega⟩, by omega, by omega⟩, _, ⟨longP_self _, big1 (by omega), by omega, by omega⟩, by decide, by decide, ⟨⟨by omega, by omega⟩, by omega, by omega⟩, _, ⟨longP_self _, big1 (by omega), by omega, by omega⟩, by decide, by decide, fun hb => ?_, fun hb => ?_⟩
          · rw [spanR, if_neg (by rw [← Bool.not_and, Bool.not_eq_true'] at hb; rw [hb]; simp)] at h
            exact ans_iv (r := ((0, 0), 7)) h
          · rw [spanR, if_pos (by rw [← Bool.not_and, Bool.not_eq_false'] at hb; exact hb)] at h
            exact ans_iv (r := ((_, _), 0)) h
        · rw [if_neg hp, if_neg hq] at h
          simp (disch := omega) only [IntWalk.u64_in]
          refine ⟨⟨⟨by omega, by omega⟩, by omega, by omega⟩, _, ⟨longP_self _, big1 (by omega), by omega, by omega⟩, by decide, by decide, ⟨⟨by omega, by omega⟩, by omega, by omega⟩, _, ⟨longP_self _, big1 (by omega), by omega, by omega⟩, by decide, by decide, fun hb => ?_, fun hb => ?_⟩
          · rw [spanR, if_neg (by rw [← Bool.not_and, Bool.not_eq_true'] at hb; rw [hb]; simp)] at h
            exact ans_iv (r := ((0, 0), 7)) h
          · rw [spanR, if_pos (by rw [← Bool.not_and, Bool.not_eq_false'] at hb; exact hb)] at h
            exact ans_iv (r := ((_, _), 0)) h
  · exact h.1.elim
theorem scl_ok : sclC.ok Try.prog 36 := by
  refine contract Try.func36 v36_is P4_ok 200 sclC fun args k h => ⟨args, ?_⟩
  simp only [sclC] at h
  split at h
  · rename_i x y n d
    refine ⟨by simp [leL, le], ?_⟩
    (try dsimp only [v36, P4_ct25, P4_ct37, P4_ct26, P4_ct42, ivlC, numC, timC, spanC, longE, enc2, go_sem, Option.bind, Option.map, List.append_nil, Nat.beq, List.cons_append, List.nil_append, List.append_eq, List.map_cons, List.map_nil, ite_self, reduceIte])
    (try simp only [true_and, and_true, imp_self, implies_true, decide_eq_true_eq, decide_eq_false_iff_not, Nat.reduceAdd, Nat.reduceLeDiff, Bool.not_not, reduceCtorEq, false_imp_iff, Bool.not_eq_true', Bool.not_eq_false', Bool.false_eq_true, and_self, forall_const, ne_eq, not_false_eq_true, Nat.reduceEqDiff])
    have h : k (.tup [.agg (enc2 (sclF (x, y) n d).1), .int .i64 (sclF (x, y) n d).2]) [] := h
    refine ⟨by decide, [(x, y)], ⟨⟨rfl, rfl, fun k hk => match k, hk with | 0, _ => leXL_self _⟩, by simp⟩, ?_⟩
    refine ⟨fun hc => ?_, fun hc => ?_⟩
    · rw [sclF, if_pos hc] at h
      exact ans_iv (r := errI (ivE [(x, y)])) h
    · obtain ⟨h1, h2, h3⟩ := ivE1 hc
      dsimp only at h1 h2 h3
      rw [sclF, if_neg (by rw [hc]; simp)] at h
      dsimp only at h
      have hnd := numOk_iff (x := d)
      have hnn := numOk_iff (x := n)
      have hcond : (decide (d < 1) || !numOk d || !numOk n) = true ↔ (d < 1 ∨ 4611686018427387904 < d ∨ n < -4611686018427387904 ∨ 4611686018427387904 < n) := by
        rw [Bool.or_eq_true, Bool.or_eq_true, decide_eq_true_eq, Bool.not_eq_true', Bool.not_eq_true', Bool.eq_false_iff, Bool.eq_false_iff, ne_eq, ne_eq, hnd, hnn]
        omega
      refine ⟨fun hb => ?_, fun hb => ?_⟩
      · rw [if_pos (hcond.1 hb)] at h
        exact ans_iv (r := errI 2) h
      · have hb' : ¬ (d < 1 ∨ 4611686018427387904 < d ∨ n < -4611686018427387904 ∨ 4611686018427387904 < n) := fun hh => by
          have := hcond.2 hh
          rw [hb] at this; cases this
        rw [if_neg hb'] at h
        rw [IntWalk.u64_in d (by omega)]
        refine ⟨⟨⟨by omega, by omega⟩, by omega, by omega⟩, ⟨⟨by omega, by omega⟩, by omega, by omega⟩, by decide,
          x * n, [y * n], ⟨⟨rfl, rfl, fun k hk => match k, hk with | 0, _ => leXL_self _ | 1, _ => leXL_self _⟩, by simp, ?_, by omega, by omega⟩, by decide, by decide, ans_iv h⟩
        intro p hp
        simp only [List.mem_cons, List.not_mem_nil, or_false] at hp
        rcases hp with rfl | rfl <;> exact big_mul (by omega) (by omega)
  · exact h.1.elim
end Go.Proofs.Ytijadllhfgajlaa

/- Intervals, walked: powers, roots, discs of the program. -/
/- Intervals, walked: powers, roots, discs of the program. -/
set_option linter.all false
namespace Go.Proofs.Ytijadllhfgajlaa
open Go Go.Vx
set_option maxRecDepth 100000
set_option maxHeartbeats 4000000

def v53 : VF := { ntmps := 34, res := [.tmp 4, .tmp 5], body :=
 (.seq (.region [u1 4 .mov [.cn (.int .u64 0)],
 u1 5 .mov [.cn (.bool false)]])
 (.seq (.region [u1 6 .mov [.cn (.int .u64 1)]])
 (.seq (.seq (.region [u1 9 .mov [.tm 0],
 u1 10 (.cmp .lss) [.tm 9, .cn (.int .u64 2)],
 u1 11 .mov [.tm 10],
 u2 12 11 true .mov [.tm 1],
 u2 13 11 true (.cmp .gtr) [.tm 12, .cn (.int .i64 0)],
 u1 14 .and [.tm 11, .tm 13]])
 (.cond (.tm 14) (.seq (.region [u1 15 .mov [.tm 0],
 u1 4 .mov [.tm 15],
 u1 5 .mov [.cn (.bool true)]])
 .ret)
  .skip))
 (.seq (.seq (.region [u1 16 .mov [.tm 1],
 u1 17 .mov [.cn (.int .i64 0)]])
 (.block 0 (.loop (.seq (.region [u1 18 (.cmp .lss) [.tm 17, .tm 16]])
 (.seq (.cond (.tm 18) .skip
  (.exit 0))
 (.seq (.block 1 (.seq (.region [u1 20 .mov [.tm 6],
 u1 21 .mov [.tm 0],
 u1 22 (.call 38) [.tm 20, .tm 21],
 u1 19 .mov [.tm 22],
 u1 23 (.ext 0) [.tm 19],
 u1 24 (.ext 1) [.tm 19],
 u1 7 .mov [.tm 23],
 u1 8 .mov [.tm 24]])
 (.seq (.seq (.region [u1 25 .mov [.tm 7],
 u1 26 (.cmp .neq) [.tm 25, .cn (.int .u64 0)],
 u1 27 .mov [.tm 26],
 u2 28 27 false .mov [.tm 8],
 u2 29 27 false (.cmp .gtr) [.tm 28, .cn (.int .u64 4611686018427387904)],
 u1 30 .or [.tm 27, .tm 29]])
 (.cond (.tm 30) (.seq (.region [u1 4 .mov [.cn (.int .u64 0)],
 u1 5 .mov [.cn (.bool false)]])
 .ret)
  .skip))
 (.region [u1 31 .mov [.tm 8],
 u1 6 .mov [.tm 31]]))))
 (.region [u1 32 (.ari .add) [.tm 17, .cn (.int .i64 1)],
 u1 17 .mov [.tm 32]])))))))
 (.seq (.region [u1 33 .mov [.tm 6],
 u1 4 .mov [.tm 33],
 u1 5 .mov [.cn (.bool true)]])
 .ret))))) }
theorem v53_is : vfunc Try.prog Try.f53 = some v53 := by kernel_rfl
def v52 : VF := { ntmps := 45, res := [.tmp 4], body :=
 (.seq (.region [u1 4 .mov [.cn (.int .u64 0)]])
 (.seq (.region [u1 10 .mov [.tm 0],
 u1 11 (.ari .add) [.tm 10, .cn (.int .u64 1)],
 u1 5 .mov [.cn (.int .u64 0)],
 u1 6 .mov [.tm 11]])
 (.seq (.seq (.region [u1 12 .mov [.tm 1],
 u1 13 (.cmp .gtr) [.tm 12, .cn (.int .i64 1)]])
 (.cond (.tm 13) (.region [u1 14 .mov [.tm 6],
 u1 15 .mov [.tm 1],
 u1 16 .quo [.cn (.int .i64 62), .tm 15],
 u1 17 (.ari .add) [.tm 16, .cn (.int .i64 1)],
 u1 18 .shl [.cn (.int .u64 1), .tm 17],
 u1 19 .min [.tm 14, .tm 18],
 u1 6 .mov [.tm 19]])
  .skip))
 (.seq (.block 0 (.loop (.seq (.seq (.region [u1 20 .mov [.tm 6],
 u1 21 .mov [.tm 5],
 u1 22 (.ari .sub) [.tm 20, .tm 21],
 u1 23 (.cmp .gtr) [.tm 22, .cn (.int .u64 1)]])
 (.cond (.tm 23) .skip
  (.exit 0)))
 (.block 1 (.seq (.region [u1 24 .mov [.tm 5],
 u1 25 .mov [.tm 6],
 u1 26 .mov [.tm 5],
 u1 27 (.ari .sub) [.tm 25, .tm 26],
 u1 28 .quo [.tm 27, .cn (.int .u64 2)],
 u1 29 (.ari .add) [.tm 24, .tm 28],
 u1 7 .mov [.tm 29]])
 (.seq (.region [u1 31 .mov [.tm 7],
 u1 32 .mov [.tm 1],
 u1 33 (.call 53) [.tm 31, .tm 32],
 u1 30 .mov [.tm 33],
 u1 34 (.ext 0) [.tm 30],
 u1 35 (.ext 1) [.tm 30],
 u1 8 .mov [.tm 34],
 u1 9 .mov [.tm 35]])
 (.seq (.region [u1 36 .mov [.tm 9],
 u1 37 .mov [.tm 36],
 u2 38 37 true .mov [.tm 8],
 u2 39 37 true .mov [.tm 0],
 u2 40 37 true (.cmp .leq) [.tm 38, .tm 39],
 u1 41 .and [.tm 37, .tm 40]])
 (.cond (.tm 41) (.region [u1 42 .mov [.tm 7],
 u1 5 .mov [.tm 42]])
  (.region [u1 43 .mov [.tm 7],
 u1 6 .mov [.tm 43]])))))))))
 (.seq (.region [u1 44 .mov [.tm 5],
 u1 4 .mov [.tm 44]])
 .ret))))) }
theorem v52_is : vfunc Try.prog Try.f52 = some v52 := by kernel_rfl
def v43 : VF := { ntmps := 58, res := [.cell 4 true 2, .tmp 5], body :=
 (.seq (.region [u1 2 .box [.tm 0],
 u1 4 (.alloc [(.int .i64 0), (.int .i64 0)]) [],
 u1 5 .mov [.cn (.int .i64 0)]])
 (.seq (.region [u1 10 (.load true 2) [.tm 2],
 u1 11 (.buildSlice 2 1 [(.int .i64 0), (.int .i64 0)] [(0, 2)]) [.tm 10],
 u1 12 (.call 25) [.tm 11],
 u1 6 .mov [.tm 12]])
 (.seq (.block 0 (.seq (.region [u1 14 .mov [.tm 6],
 u1 15 (.cmp .neq) [.tm 14, .cn (.int .i64 0)],
 u1 13 .mov [.tm 15]])
 (.cond (.tm 13) (.seq (.region [u1 16 (.build [(.int .i64 0), (.int .i64 0)] []) [],
 u1 17 .mov [.tm 6],
 u0 (.store 2) [.tm 4, .tm 16],
 u1 5 .mov [.tm 17]])
 .ret)
  (.seq (.region [u1 19 .mov [.tm 1],
 u1 20 (.cmp .lss) [.tm 19, .cn (.int .i64 1)],
 u1 21 .mov [.tm 20],
 u2 22 21 false .mov [.tm 1],
 u2 23 21 false (.cmp .gtr) [.tm 22, .cn (.int .i64 62)],
 u1 24 .or [.tm 21, .tm 23],
 u1 18 .mov [.tm 24]])
 (.cond (.tm 18) (.seq (.region [u1 25 (.build [(.int .i64 0), (.int .i64 0)] []) [],
 u0 (.store 2) [.tm 4, .tm 25],
 u1 5 .mov [.cn (.int .i64 2)]])
 .ret)
  (.seq (.region [u1 27 (.fieldAddr 0) [.tm 2],
 u1 28 (.load false 1) [.tm 27],
 u1 29 (.cmp .lss) [.tm 28, .cn (.int .i64 0)],
 u1 26 .mov [.tm 29]])
 (.cond (.tm 26) (.seq (.region [u1 30 (.build [(.int .i64 0), (.int .i64 0)] []) [],
 u0 (.store 2) [.tm 4, .tm 30],
 u1 5 .mov [.cn (.int .i64 9)]])
 .ret)
  .skip)))))))
 (.seq (.region [u1 31 (.fieldAddr 1) [.tm 2],
 u1 32 (.load false 1) [.tm 31],
 u1 33 (.conv .u64) [.tm 32],
 u1 34 .mov [.tm 1],
 u1 35 (.call 52) [.tm 33, .tm 34],
 u1 7 .mov [.tm 35]])
 (.seq (.seq (.region [u1 37 .mov [.tm 7],
 u1 38 .mov [.tm 1],
 u1 39 (.call 53) [.tm 37, .tm 38],
 u1 36 .mov [.tm 39],
 u1 40 (.ext 0) [.tm 36],
 u1 41 (.ext 1) [.tm 36],
 u1 8 .mov [.tm 40],
 u1 9 .mov [.tm 41]])
 (.seq (.region [u1 42 .mov [.tm 8],
 u1 43 (.fieldAddr 1) [.tm 2],
 u1 44 (.load false 1) [.tm 43],
 u1 45 (.conv .u64) [.tm 44],
 u1 46 (.cmp .lss) [.tm 42, .tm 45]])
 (.cond (.tm 46) (.region [u1 47 .mov [.tm 7],
 u1 48 (.ari .add) [.tm 47, .cn (.int .u64 1)],
 u1 7 .mov [.tm 48]])
  .skip)))
 (.seq (.region [u1 49 (.fieldAddr 0) [.tm 2],
 u1 50 (.load false 1) [.tm 49],
 u1 51 (.conv .u64) [.tm 50],
 u1 52 .mov [.tm 1],
 u1 53 (.call 52) [.tm 51, .tm 52],
 u1 54 (.conv .i64) [.tm 53],
 u1 55 .mov [.tm 7],
 u1 56 (.conv .i64) [.tm 55],
 u1 57 (.build [(.int .i64 0), (.int .i64 0)] [(0, 1), (1, 1)]) [.tm 54, .tm 56],
 u0 (.store 2) [.tm 4, .tm 57],
 u1 5 .mov [.cn (.int .i64 0)]])
 .ret)))))) }
theorem v43_is : vfunc Try.prog Try.f43 = some v43 := by kernel_rfl


def powP (n k : Nat) : Nat × Bool := if n ^ k ≤ 4611686018427387904 then (n ^ k, true) else (0, false)
def powpC : Ctr := { alias := false, of := fun l => match l with
  | [.int .u64 n, .int .i64 k] => .pre ((0 ≤ n ∧ n ≤ 18446744073709551615) ∧ 0 ≤ k ∧ k ≤ 1000) (.fin (.tup [.int .u64 (powP n.toNat k.toNat).1, .bool (powP n.toNat k.toNat).2]) [])
  | _ => noC }
def rootpC : Ctr := { alias := false, of := fun l => match l with
  | [.int .u64 n, .int .i64 k] => .pre ((0 ≤ n ∧ n ≤ 4611686018427387904) ∧ 1 ≤ k ∧ k ≤ 62) (.fin (.int .u64 (rootN n.toNat k.toNat)) [])
  | _ => noC }
def rootC : Ctr := { alias := false, of := fun a => match a with
  | [.agg [.int .i64 x, .int .i64 y], .int .i64 k] => .fin (.tup [.agg (enc2 (rootF (x, y) k).1), .int .i64 (rootF (x, y) k).2]) []
  | _ => noC }
def P5 : Env := { ct := fun n => match n with | 38 => some mul64C | 40 => some div64C | _ => none, fn := fun _ => none, meth := fun _ _ => none }
theorem P5_ct38 : P5.ct 38 = some mul64C := rfl
theorem P5_ok : EnvOk Try.prog P5 := by
  refine ⟨fun f c h => ?_, fun f vf h => ?_, (fun _ _ _ h => by cases h), by kernel_rfl, (fun _ h => by cases h)⟩
  · simp only [P5] at h
    split at h
    · cases h; exact ⟨mul64_ok, Try.f38, Try.func38, by kernel_rfl, by kernel_rfl⟩
    · cases h; exact ⟨div64_ok, Try.f40, Try.func40, by kernel_rfl, by kernel_rfl⟩
    · cases h
  · cases h


theorem ans_ib {k : SV → List HO → Prop} {al : Bool} {hp : List HO} {κ : IntKind} {x : Int} {b : Bool} (h : k (.tup [.int κ x, .bool b]) []) : answers al k (.tup [.int κ x, .bool b]) hp :=
  ans_le (show k _ [] from h) (le_self (.tup [.int κ x, .bool b]) ⟨trivial, trivial, trivial⟩) (fun _ => by simp [freshS, freshL])

theorem powp_ok : powpC.ok Try.prog 53 := by
  refine contract Try.func53 v53_is P5_ok 300 powpC fun args k h => ⟨args, ?_⟩
  simp only [powpC] at h
  split at h
  · rename_i n e
    obtain ⟨⟨⟨h0, h1⟩, h2, h3⟩, h⟩ := h
    obtain ⟨n, rfl⟩ := Int.eq_ofNat_of_zero_le h0
    obtain ⟨e, rfl⟩ := Int.eq_ofNat_of_zero_le h2
    refine ⟨by simp [leL, le], ?_⟩
    (try dsimp only [v53, go_sem, Option.bind, Option.map, List.append_nil, Nat.beq, List.cons_append, List.nil_append, List.append_eq, List.map_cons, List.map_nil, ite_self, reduceIte])
    (try simp only [true_and, and_true, imp_self, implies_true, decide_eq_true_eq, decide_eq_false_iff_not, Nat.reduceAdd, Nat.reduceLeDiff, Bool.not_not, reduceCtorEq, false_imp_iff, Bool.not_eq_true', Bool.not_eq_false', Bool.false_eq_true, and_self, forall_const, ne_eq, not_false_eq_true, Nat.reduceEqDiff])
    have h : k (.tup [.int .u64 (powP n e).1, .bool (powP n e).2]) [] := h
    refine ⟨fun hc => ?_, fun hc => ?_⟩
    · rw [Bool.and_eq_true, decide_eq_true_eq, decide_eq_true_eq] at hc
      have : n ^ e = n := by
        rcases (by omega : n = 0 ∨ n = 1) with rfl | rfl
        · exact Nat.zero_pow (by omega)
        · exact Nat.one_pow _
      rw [powP, this, if_pos (by omega)] at h
      exact ans_ib h
    · rw [Bool.and_eq_false_iff, decide_eq_false_iff_not, decide_eq_false_iff_not] at hc
      refine Loop.keep [0, 15] Nat (fun i => [(6, .int .u64 ((n ^ i : Nat) : Int)), (17, .int .i64 i)]) (fun _ => []) [] (fun i => i ≤ e ∧ n ^ i ≤ 4611686018427387904) (fun i => e - i) ?_ ?_
      · refine ⟨0, ⟨Nat.zero_le _, by simp⟩, ?_⟩
        (try dsimp only [go_sem, Option.bind, Option.map, List.append_nil, Nat.beq, List.cons_append, List.nil_append, List.append_eq, List.map_cons, List.map_nil, ite_self, reduceIte])
        simp only [leS_mk, leL_cons, leL_nil, le_junk, le_int, le_bool, le_nil, leLL_nil, leLL_cons, leH_cons, leH_nil, leH1_box, leH1_own, leH1_gone, le_vs, le_agg, le_tup, le_ptr, le_own, le_xp, le_fn, le_opt, le_val, le_elem, le_nil_own, le_nil_vs, leH_ghost, leL_chunk, leXL_id, bnd_int, bnd_bool, bnd_val, bnd_nil, bnd_junk, bnd_vs, bnd_xp, bnd_agg, bnd_tup, bnd_ptr, bnd_own, bnd_elem, bnd_fn, bnd_iface, bnd_opt, bnd_row, bnd_rcell, bnd_imap, bnd_smp, le_row, le_rcell, le_imap, le_smp, leH1_smap, bndL_nil, bndL_cons, lenH_cons, lenH_nil, imp_self, implies_true, true_and, and_true] <;> simp
      · rintro i ⟨hi, hp⟩
        (try dsimp only [P5_ct38, mul64C, go_sem, Option.bind, Option.map, List.append_nil, Nat.beq, List.cons_append, List.nil_append, List.append_eq, List.map_cons, List.map_nil, ite_self, reduceIte])
        (try simp only [true_and, and_true, imp_self, implies_true, decide_eq_true_eq, decide_eq_false_iff_not, Nat.reduceAdd, Nat.reduceLeDiff, Bool.not_not, reduceCtorEq, false_imp_iff, Bool.not_eq_true', Bool.not_eq_false', Bool.false_eq_true, and_self, forall_const, ne_eq, not_false_eq_true, Nat.reduceEqDiff])
        have e0 : ((n ^ i : Nat) : Int) * (n : Int) = ((n ^ (i + 1) : Nat) : Int) := by rw [Nat.pow_succ]; exact (Int.natCast_mul _ _).symm
        rw [e0]
        refine ⟨fun hlt => ⟨⟨⟨by omega, by omega⟩, by omega, by omega⟩, by decide, by decide, fun hb => ?_, fun hb => ⟨i + 1, ⟨by omega, ?_⟩, by omega, ?_⟩⟩, fun hge => ?_⟩
        · have hbig : 4611686018427387904 < n ^ (i + 1) := by
            rw [Bool.or_eq_true, Bool.not_eq_true', decide_eq_false_iff_not, decide_eq_true_eq] at hb
            generalize n ^ (i + 1) = t at *
            omega
          have hle : n ^ (i + 1) ≤ n ^ e := Nat.pow_le_pow_right (by omega) (by omega)
          rw [powP, if_neg (by omega)] at h
          exact ans_ib h
        · rw [Bool.or_eq_false_iff, Bool.not_eq_false', decide_eq_true_eq, decide_eq_false_iff_not] at hb
          generalize n ^ (i + 1) = t at *
          omega
        · have hm : ((n ^ (i + 1) : Nat) : Int) % 18446744073709551616 = ((n ^ (i + 1) : Nat) : Int) := by
            rw [Bool.or_eq_false_iff, Bool.not_eq_false', decide_eq_true_eq, decide_eq_false_iff_not] at hb
            generalize n ^ (i + 1) = t at *
            omega
          rw [hm, w_succ (n := e) (by omega) (by omega)]
          simp only [leS_mk, leL_cons, leL_nil, le_junk, le_int, le_bool, le_nil, leLL_nil, leLL_cons, leH_cons, leH_nil, leH1_box, leH1_own, leH1_gone, le_vs, le_agg, le_tup, le_ptr, le_own, le_xp, le_fn, le_opt, le_val, le_elem, le_nil_own, le_nil_vs, leH_ghost, leL_chunk, leXL_id, bnd_int, bnd_bool, bnd_val, bnd_nil, bnd_junk, bnd_vs, bnd_xp, bnd_agg, bnd_tup, bnd_ptr, bnd_own, bnd_elem, bnd_fn, bnd_iface, bnd_opt, bnd_row, bnd_rcell, bnd_imap, bnd_smp, le_row, le_rcell, le_imap, le_smp, leH1_smap, bndL_nil, bndL_cons, lenH_cons, lenH_nil, imp_self, implies_true, true_and, and_true] <;> simp
        · obtain rfl : i = e := by omega
          rw [powP, if_pos hp] at h
          exact ans_ib h
  · exact h.1.elim
def P6 : Env := { ct := fun n => match n with | 38 => some mul64C | 40 => some div64C | 53 => some powpC | 39 => some sizC | 25 => some ivlC | _ => none, fn := fun _ => none, meth := fun _ _ => none }
theorem P6_ct53 : P6.ct 53 = some powpC := rfl
theorem P6_ok : EnvOk Try.prog P6 := by
  refine ⟨fun f c h => ?_, fun f vf h => ?_, (fun _ _ _ h => by cases h), by kernel_rfl, (fun _ h => by cases h)⟩
  · simp only [P6] at h
    split at h
    · cases h; exact ⟨mul64_ok, Try.f38, Try.func38, by kernel_rfl, by kernel_rfl⟩
    · cases h; exact ⟨div64_ok, Try.f40, Try.func40, by kernel_rfl, by kernel_rfl⟩
    · cases h; exact ⟨powp_ok, Try.f53, Try.func53, by kernel_rfl, by kernel_rfl⟩
    · cases h; exact ⟨siz_ok, Try.f39, Try.func39, by kernel_rfl, by kernel_rfl⟩
    · cases h; exact ⟨ivl_ok, Try.f25, Try.func25, by kernel_rfl, by kernel_rfl⟩
    · cases h
  · cases h


theorem rootp_ok : rootpC.ok Try.prog 52 := by
  refine contract Try.func52 v52_is P6_ok 300 rootpC fun args k h => ⟨args, ?_⟩
  simp only [rootpC] at h
  split at h
  · rename_i n e
    obtain ⟨⟨⟨h0, h1⟩, h2, h3⟩, h⟩ := h
    obtain ⟨n, rfl⟩ := Int.eq_ofNat_of_zero_le h0
    obtain ⟨e, rfl⟩ := Int.eq_ofNat_of_zero_le (by omega : 0 ≤ e)
    refine ⟨by simp [leL, le], ?_⟩
    (try dsimp only [v52, go_sem, Option.bind, Option.map, List.append_nil, Nat.beq, List.cons_append, List.nil_append, List.append_eq, List.map_cons, List.map_nil, ite_self, reduceIte])
    (try simp only [true_and, and_true, imp_self, implies_true, decide_eq_true_eq, decide_eq_false_iff_not, Nat.reduceAdd, Nat.reduceLeDiff, Bool.not_not, reduceCtorEq, false_imp_iff, Bool.not_eq_true', Bool.not_eq_false', Bool.false_eq_true, and_self, forall_const, ne_eq, not_false_eq_true, Nat.reduceEqDiff])
    have h : k (.int .u64 (rootN n e)) [] := h
    have e1 : IntKind.i64.wrap (IntKind.i64.wrap (Int.tdiv 62 (e : Int)) + 1) = ((62 / e + 1 : Nat) : Int) := by
      have : Int.tdiv 62 (e : Int) = ((62 / e : Nat) : Int) := IntWalk.up_tdiv (x := 62) rfl rfl
      have hle : 62 / e ≤ 62 := Nat.div_le_self _ _
      generalize 62 / e = t at *
      rw [this, IntWalk.i64_in (t : Int) (by omega), IntWalk.i64_in _ (by omega)]; omega
    have e2 : IntKind.u64.wrap ((n : Int) + 1) = ((n + 1 : Nat) : Int) := by rw [IntWalk.u64_in _ (by omega)]; omega
    refine ⟨fun hgt => ⟨by omega, ?_⟩, fun hle => ?_⟩
    · have hq : 62 / e ≤ 31 := by
        have : 62 / e ≤ 62 / 2 := Nat.div_le_div_left (by omega) (by decide)
        omega
      have e3 : IntKind.u64.wrap (1 * 2 ^ min (62 / e + 1) 64) = ((2 ^ (62 / e + 1) : Nat) : Int) := by
        have h1 := shl_nat (x := 1) (s := 62 / e + 1) (by omega) (by
          rw [Nat.one_mul]
          exact Nat.lt_of_le_of_lt (Nat.pow_le_pow_right (by decide) (by omega : 62 / e + 1 ≤ 32)) (by decide))
        rw [Nat.one_mul] at h1
        exact h1
      rw [e1, e2]
      simp only [Int.toNat_natCast]
      rw [e3]
      refine ⟨Int.natCast_nonneg _, ?_⟩
      have hhigh : n < (min (n + 1) (2 ^ (62 / e + 1))) ^ e := by
        rcases Nat.le_total (n + 1) (2 ^ (62 / e + 1)) with hm | hm
        · rw [Nat.min_eq_left hm]
          exact Nat.lt_of_lt_of_le (Nat.lt_succ_self n) (Nat.le_trans (Nat.le_of_eq (Nat.pow_one _).symm) (Nat.pow_le_pow_right (by omega) (by omega)))
        · rw [Nat.min_eq_right hm, ← Nat.pow_mul]
          have h63 : 63 ≤ (62 / e + 1) * e := by
            have := Nat.div_add_mod 62 e
            have := Nat.mod_lt 62 (by omega : e > 0)
            rw [Nat.succ_mul, Nat.mul_comm]; omega
          exact Nat.lt_of_lt_of_le (by omega : n < 2 ^ 63) (Nat.pow_le_pow_right (by decide) h63)
      have hm : min ((n + 1 : Nat) : Int) ((2 ^ (62 / e + 1) : Nat) : Int) = ((min (n + 1) (2 ^ (62 / e + 1)) : Nat) : Int) := by omega
      rw [hm]
      have hmb : min (n + 1) (2 ^ (62 / e + 1)) ≤ n + 1 := Nat.min_le_left _ _
      generalize min (n + 1) (2 ^ (62 / e + 1)) = H at hhigh hmb ⊢
      refine Loop.keep [0, 0] (Nat × Nat) (fun x => [(5, .int .u64 x.1), (6, .int .u64 x.2)]) (fun _ => []) [] (fun x => x.1 ^ e ≤ n ∧ n < x.2 ^ e ∧ x.1 < x.2 ∧ x.2 ≤ n + 1) (fun x => x.2 - x.1) ?_ ?_
      · refine ⟨(0, H), ⟨by rw [Nat.zero_pow (by omega)]; exact Nat.zero_le _, hhigh, ?_, by omega⟩, ?_⟩
        · refine Nat.pos_of_ne_zero fun h0 => ?_
          have h0 : H = 0 := h0
          rw [h0, Nat.zero_pow (by omega)] at hhigh
          exact absurd hhigh (Nat.not_lt_zero _)
        · (try dsimp only [go_sem, Option.bind, Option.map, List.append_nil, Nat.beq, List.cons_append, List.nil_append, List.append_eq, List.map_cons, List.map_nil, ite_self, reduceIte])
          simp only [leS_mk, leL_cons, leL_nil, le_junk, le_int, le_bool, le_nil, leLL_nil, leLL_cons, leH_cons, leH_nil, leH1_box, leH1_own, leH1_gone, le_vs, le_agg, le_tup, le_ptr, le_own, le_xp, le_fn, le_opt, le_val, le_elem, le_nil_own, le_nil_vs, leH_ghost, leL_chunk, leXL_id, bnd_int, bnd_bool, bnd_val, bnd_nil, bnd_junk, bnd_vs, bnd_xp, bnd_agg, bnd_tup, bnd_ptr, bnd_own, bnd_elem, bnd_fn, bnd_iface, bnd_opt, bnd_row, bnd_rcell, bnd_imap, bnd_smp, le_row, le_rcell, le_imap, le_smp, leH1_smap, bndL_nil, bndL_cons, lenH_cons, lenH_nil, imp_self, implies_true, true_and, and_true] <;> simp
      · rintro ⟨l, u⟩ ⟨hl, hu, hlu, hun⟩
        dsimp only at hl hu hlu hun
        (try dsimp only [P6_ct53, powpC, go_sem, Option.bind, Option.map, List.append_nil, Nat.beq, List.cons_append, List.nil_append, List.append_eq, List.map_cons, List.map_nil, ite_self, reduceIte])
        (try simp only [true_and, and_true, imp_self, implies_true, decide_eq_true_eq, decide_eq_false_iff_not, Nat.reduceAdd, Nat.reduceLeDiff, Bool.not_not, reduceCtorEq, false_imp_iff, Bool.not_eq_true', Bool.not_eq_false', Bool.false_eq_true, and_self, forall_const, ne_eq, not_false_eq_true, Nat.reduceEqDiff])
        have w1 : IntKind.u64.wrap ((u : Int) - (l : Int)) = ((u - l : Nat) : Int) := u_sub (by omega) (by omega)
        have w2 : IntKind.u64.wrap (((u - l : Nat) : Int).tdiv 2) = (((u - l) / 2 : Nat) : Int) := by
          have : ((u - l : Nat) : Int).tdiv 2 = (((u - l) / 2 : Nat) : Int) := IntWalk.up_tdiv (y := 2) rfl rfl
          rw [this]; exact u_nat (by omega)
        have w3 : IntKind.u64.wrap ((l : Int) + (((u - l) / 2 : Nat) : Int)) = ((l + (u - l) / 2 : Nat) : Int) := u_add (by omega)
        rw [w1, w2, w3]
        simp only [Int.toNat_natCast]
        refine ⟨fun hgt => ⟨by decide, ⟨⟨by omega, by omega⟩, by omega, by omega⟩, by decide, by decide, ?_⟩, fun hle => ?_⟩
        · generalize hM : l + (u - l) / 2 = M
          have hM1 : l < M := by omega
          have hM2 : M < u := by omega
          have hcond : ((powP M e).2 && decide (((powP M e).1 : Int) ≤ (n : Int))) = true ↔ M ^ e ≤ n := by
            unfold powP
            split
            · simp only [Bool.true_and, decide_eq_true_eq]
              generalize M ^ e = t
              omega
            · simp only [Bool.false_and, Bool.false_eq_true, false_iff]
              generalize M ^ e = t at *
              omega
          refine ⟨fun hb => ⟨(M, u), ⟨hcond.1 hb, hu, hM2, hun⟩, by simp only; omega, ?_⟩, fun hb => ⟨(l, M), ⟨hl, ?_, hM1, by simp only; omega⟩, by simp only; omega, ?_⟩⟩
          · simp only [leS_mk, leL_cons, leL_nil, le_junk, le_int, le_bool, le_nil, leLL_nil, leLL_cons, leH_cons, leH_nil, leH1_box, leH1_own, leH1_gone, le_vs, le_agg, le_tup, le_ptr, le_own, le_xp, le_fn, le_opt, le_val, le_elem, le_nil_own, le_nil_vs, leH_ghost, leL_chunk, leXL_id, bnd_int, bnd_bool, bnd_val, bnd_nil, bnd_junk, bnd_vs, bnd_xp, bnd_agg, bnd_tup, bnd_ptr, bnd_own, bnd_elem, bnd_fn, bnd_iface, bnd_opt, bnd_row, bnd_rcell, bnd_imap, bnd_smp, le_row, le_rcell, le_imap, le_smp, leH1_smap, bndL_nil, bndL_cons, lenH_cons, lenH_nil, imp_self, implies_true, true_and, and_true]
          · refine Nat.lt_of_not_le fun hh => ?_
            have := hcond.2 hh
            rw [hb] at this; cases this
          · simp only [leS_mk, leL_cons, leL_nil, le_junk, le_int, le_bool, le_nil, leLL_nil, leLL_cons, leH_cons, leH_nil, leH1_box, leH1_own, leH1_gone, le_vs, le_agg, le_tup, le_ptr, le_own, le_xp, le_fn, le_opt, le_val, le_elem, le_nil_own, le_nil_vs, leH_ghost, leL_chunk, leXL_id, bnd_int, bnd_bool, bnd_val, bnd_nil, bnd_junk, bnd_vs, bnd_xp, bnd_agg, bnd_tup, bnd_ptr, bnd_own, bnd_elem, bnd_fn, bnd_iface, bnd_opt, bnd_row, bnd_rcell, bnd_imap, bnd_smp, le_row, le_rcell, le_imap, le_smp, leH1_smap, bndL_nil, bndL_cons, lenH_cons, lenH_nil, imp_self, implies_true, true_and, and_true]
        · obtain rfl : u = l + 1 := by omega
          rw [rootN_eq (by omega) hl hu] at h
          exact ans_int h
    · have hhigh : n < (n + 1) ^ e := Nat.lt_of_lt_of_le (Nat.lt_succ_self n) (Nat.le_trans (Nat.le_of_eq (Nat.pow_one _).symm) (Nat.pow_le_pow_right (by omega) (by omega)))
      rw [e2]
      have hmb : n + 1 ≤ n + 1 := Nat.le_refl _
      generalize hH : n + 1 = H at hhigh ⊢
      rw [hH] at hmb
      refine Loop.keep [0, 0] (Nat × Nat) (fun x => [(5, .int .u64 x.1), (6, .int .u64 x.2)]) (fun _ => []) [] (fun x => x.1 ^ e ≤ n ∧ n < x.2 ^ e ∧ x.1 < x.2 ∧ x.2 ≤ n + 1) (fun x => x.2 - x.1) ?_ ?_
      · refine ⟨(0, H), ⟨by rw [Nat.zero_pow (by omega)]; exact Nat.zero_le _, hhigh, ?_, by omega⟩, ?_⟩
        · refine Nat.pos_of_ne_zero fun h0 => ?_
          have h0 : H = 0 := h0
          rw [h0, Nat.zero_pow (by omega)] at hhigh
          exact absurd hhigh (Nat.not_lt_zero _)
        · (try dsimp only [go_sem, Option.bind, Option.map, List.append_nil, Nat.beq, List.cons_append, List.nil_append, List.append_eq, List.map_cons, List.map_nil, ite_self, reduceIte])
          simp only [leS_mk, leL_cons, leL_nil, le_junk, le_int, le_bool, le_nil, leLL_nil, leLL_cons, leH_cons, leH_nil, leH1_box, leH1_own, leH1_gone, le_vs, le_agg, le_tup, le_ptr, le_own, le_xp, le_fn, le_opt, le_val, le_elem, le_nil_own, le_nil_vs, leH_ghost, leL_chunk, leXL_id, bnd_int, bnd_bool, bnd_val, bnd_nil, bnd_junk, bnd_vs, bnd_xp, bnd_agg, bnd_tup, bnd_ptr, bnd_own, bnd_elem, bnd_fn, bnd_iface, bnd_opt, bnd_row, bnd_rcell, bnd_imap, bnd_smp, le_row, le_rcell, le_imap, le_smp, leH1_smap, bndL_nil, bndL_cons, lenH_cons, lenH_nil, imp_self, implies_true, true_and, and_true] <;> simp
      · rintro ⟨l, u⟩ ⟨hl, hu, hlu, hun⟩
        dsimp only at hl hu hlu hun
        (try dsimp only [P6_ct53, powpC, go_sem, Option.bind, Option.map, List.append_nil, Nat.beq, List.cons_append, List.nil_append, List.append_eq, List.map_cons, List.map_nil, ite_self, reduceIte])
        (try simp only [true_and, and_true, imp_self, implies_true, decide_eq_true_eq, decide_eq_false_iff_not, Nat.reduceAdd, Nat.reduceLeDiff, Bool.not_not, reduceCtorEq, false_imp_iff, Bool.not_eq_true', Bool.not_eq_false', Bool.false_eq_true, and_self, forall_const, ne_eq, not_false_eq_true, Nat.reduceEqDiff])
        have w1 : IntKind.u64.wrap ((u : Int) - (l : Int)) = ((u - l : Nat) : Int) := u_sub (by omega) (by omega)
        have w2 : IntKind.u64.wrap (((u - l : Nat) : Int).tdiv 2) = (((u - l) / 2 : Nat) : Int) := by
          have : ((u - l : Nat) : Int).tdiv 2 = (((u - l) / 2 : Nat) : Int) := IntWalk.up_tdiv (y := 2) rfl rfl
          rw [this]; exact u_nat (by omega)
        have w3 : IntKind.u64.wrap ((l : Int) + (((u - l) / 2 : Nat) : Int)) = ((l + (u - l) / 2 : Nat) : Int) := u_add (by omega)
        rw [w1, w2, w3]
        simp only [Int.toNat_natCast]
        refine ⟨fun hgt => ⟨by decide, ⟨⟨by omega, by omega⟩, by omega, by omega⟩, by decide, by decide, ?_⟩, fun hle => ?_⟩
        · generalize hM : l + (u - l) / 2 = M
          have hM1 : l < M := by omega
          have hM2 : M < u := by omega
          have hcond : ((powP M e).2 && decide (((powP M e).1 : Int) ≤ (n : Int))) = true ↔ M ^ e ≤ n := by
            unfold powP
            split
            · simp only [Bool.true_and, decide_eq_true_eq]
              generalize M ^ e = t
              omega
            · simp only [Bool.false_and, Bool.false_eq_true, false_iff]
              generalize M ^ e = t at *
              omega
          refine ⟨fun hb => ⟨(M, u), ⟨hcond.1 hb, hu, hM2, hun⟩, by simp only; omega, ?_⟩, fun hb => ⟨(l, M), ⟨hl, ?_, hM1, by simp only; omega⟩, by simp only; omega, ?_⟩⟩
          · simp only [leS_mk, leL_cons, leL_nil, le_junk, le_int, le_bool, le_nil, leLL_nil, leLL_cons, leH_cons, leH_nil, leH1_box, leH1_own, leH1_gone, le_vs, le_agg, le_tup, le_ptr, le_own, le_xp, le_fn, le_opt, le_val, le_elem, le_nil_own, le_nil_vs, leH_ghost, leL_chunk, leXL_id, bnd_int, bnd_bool, bnd_val, bnd_nil, bnd_junk, bnd_vs, bnd_xp, bnd_agg, bnd_tup, bnd_ptr, bnd_own, bnd_elem, bnd_fn, bnd_iface, bnd_opt, bnd_row, bnd_rcell, bnd_imap, bnd_smp, le_row, le_rcell, le_imap, le_smp, leH1_smap, bndL_nil, bndL_cons, lenH_cons, lenH_nil, imp_self, implies_true, true_and, and_true]
          · refine Nat.lt_of_not_le fun hh => ?_
            have := hcond.2 hh
            rw [hb] at this; cases this
          · simp only [leS_mk, leL_cons, leL_nil, le_junk, le_int, le_bool, le_nil, leLL_nil, leLL_cons, leH_cons, leH_nil, leH1_box, leH1_own, leH1_gone, le_vs, le_agg, le_tup, le_ptr, le_own, le_xp, le_fn, le_opt, le_val, le_elem, le_nil_own, le_nil_vs, leH_ghost, leL_chunk, leXL_id, bnd_int, bnd_bool, bnd_val, bnd_nil, bnd_junk, bnd_vs, bnd_xp, bnd_agg, bnd_tup, bnd_ptr, bnd_own, bnd_elem, bnd_fn, bnd_iface, bnd_opt, bnd_row, bnd_rcell, bnd_imap, bnd_smp, le_row, le_rcell, le_imap, le_smp, leH1_smap, bndL_nil, bndL_cons, lenH_cons, lenH_nil, imp_self, implies_true, true_and, and_true]
        · obtain rfl : u = l + 1 := by omega
          rw [rootN_eq (by omega) hl hu] at h
          exact ans_int h
  · exact h.1.elim

def P7 : Env := { ct := fun n => match n with | 53 => some powpC | 52 => some rootpC | 25 => some ivlC | _ => none, fn := fun _ => none, meth := fun _ _ => none }
theorem P7_ct53 : P7.ct 53 = some powpC := rfl
theorem P7_ct52 : P7.ct 52 = some rootpC := rfl
theorem P7_ct25 : P7.ct 25 = some ivlC := rfl
theorem P7_ok : EnvOk Try.prog P7 := by
  refine ⟨fun f c h => ?_, fun f vf h => ?_, (fun _ _ _ h => by cases h), by kernel_rfl, (fun _ h => by cases h)⟩
  · simp only [P7] at h
    split at h
    · cases h; exact ⟨powp_ok, Try.f53, Try.func53, by kernel_rfl, by kernel_rfl⟩
    · cases h; exact ⟨rootp_ok, Try.f52, Try.func52, by kernel_rfl, by kernel_rfl⟩
    · cases h; exact ⟨ivl_ok, Try.f25, Try.func25, by kernel_rfl, by kernel_rfl⟩
    · cases h
  · cases h


theorem rootN_le {n k : Nat} (hk : 0 < k) : rootN n k ≤ n := by
  have h := (rootN_spec (n := n) hk).1
  generalize rootN n k = r at *
  cases r with
  | zero => exact Nat.zero_le _
  | succ r => exact Nat.le_trans (Nat.le_trans (Nat.le_of_eq (Nat.pow_one _).symm) (Nat.pow_le_pow_right (by omega) hk)) h

theorem root_ok : rootC.ok Try.prog 43 := by
  refine contract Try.func43 v43_is P7_ok 300 rootC fun args k h => ⟨args, ?_⟩
  simp only [rootC] at h
  split at h
  · rename_i x y e
    refine ⟨by simp [leL, le], ?_⟩
    (try dsimp only [v43, P7_ct25, P7_ct53, P7_ct52, ivlC, powpC, rootpC, enc2, go_sem, Option.bind, Option.map, List.append_nil, Nat.beq, List.cons_append, List.nil_append, List.append_eq, List.map_cons, List.map_nil, ite_self, reduceIte])
    (try simp only [true_and, and_true, imp_self, implies_true, decide_eq_true_eq, decide_eq_false_iff_not, Nat.reduceAdd, Nat.reduceLeDiff, Bool.not_not, reduceCtorEq, false_imp_iff, Bool.not_eq_true', Bool.not_eq_false', Bool.false_eq_true, and_self, forall_const, ne_eq, not_false_eq_true, Nat.reduceEqDiff])
    have h : k (.tup [.agg (enc2 (rootF (x, y) e).1), .int .i64 (rootF (x, y) e).2]) [] := h
    refine ⟨by decide, [(x, y)], ⟨⟨rfl, rfl, fun k hk => match k, hk with | 0, _ => leXL_self _⟩, by simp⟩, fun hc => ?_, fun hc => ?_⟩
    · rw [rootF, if_pos hc] at h
      exact ans_iv (r := errI (ivE [(x, y)])) h
    · obtain ⟨h1, h2, h3⟩ := ivE1 hc
      dsimp only at h1 h2 h3
      rw [rootF, if_neg (by rw [hc]; simp)] at h
      dsimp only at h
      refine ⟨fun hb => ?_, fun hb => ⟨fun hx => ?_, fun hx => ?_⟩⟩
      · rw [Bool.or_eq_true, decide_eq_true_eq, decide_eq_true_eq] at hb
        rw [if_pos hb] at h
        exact ans_iv (r := errI 2) h
      · rw [Bool.or_eq_false_iff, decide_eq_false_iff_not, decide_eq_false_iff_not] at hb
        rw [if_neg (by omega), if_pos hx] at h
        exact ans_iv (r := errI 9) h
      · rw [Bool.or_eq_false_iff, decide_eq_false_iff_not, decide_eq_false_iff_not] at hb
        rw [if_neg (by omega), if_neg hx] at h
        obtain ⟨x, rfl⟩ := Int.eq_ofNat_of_zero_le (by omega : 0 ≤ x)
        obtain ⟨y, rfl⟩ := Int.eq_ofNat_of_zero_le (by omega : 0 ≤ y)
        obtain ⟨e, rfl⟩ := Int.eq_ofNat_of_zero_le (by omega : 0 ≤ e)
        rw [IntWalk.u64_in (x : Int) (by omega), IntWalk.u64_in (y : Int) (by omega)]
        simp only [Int.toNat_natCast] at h ⊢
        have sx := rootN_spec (n := x) (k := e) (by omega)
        have sy := rootN_spec (n := y) (k := e) (by omega)
        have lx := rootN_le (n := x) (k := e) (by omega)
        have ly := rootN_le (n := y) (k := e) (by omega)
        have hp : powP (rootN y e) e = (rootN y e ^ e, true) := by unfold powP; rw [if_pos (by omega)]
        rw [hp]
        unfold rootUp at h
        generalize rootN x e = rx at *
        generalize rootN y e = ry at *
        rw [IntWalk.i64_in (rx : Int) (by omega), IntWalk.i64_in (ry : Int) (by omega), IntWalk.u64_in ((ry : Int) + 1) (by omega), IntWalk.i64_in ((ry : Int) + 1) (by omega)]
        refine ⟨⟨⟨by omega, by omega⟩, by omega, by omega⟩, ⟨⟨by omega, by omega⟩, by omega, by omega⟩, by decide, by decide, fun hc => ⟨⟨⟨by omega, by omega⟩, by omega, by omega⟩, ?_⟩, fun hc => ⟨⟨⟨by omega, by omega⟩, by omega, by omega⟩, ?_⟩⟩
        · rw [if_pos (by omega)] at h
          exact ans_iv (r := ((_, _), 0)) h
        · rw [if_neg (by omega)] at h
          exact ans_iv (r := ((_, _), 0)) h
  · exact h.1.elim

end Go.Proofs.Ytijadllhfgajlaa

/- Lengths, walked: Check, corrections. -/
/- Lengths, walked: Check, corrections. -/
set_option linter.all false
namespace Go.Proofs.Ytijadllhfgajlaa
open Go Go.Vx
set_option maxRecDepth 100000
set_option maxHeartbeats 4000000

def v20 : VF := { ntmps := 59, res := [.tmp 2], body :=
 (.seq (.region [u1 1 .box [.tm 0],
 u1 2 .mov [.cn (.int .i64 0)]])
 (.seq (.region [u1 4 (.fieldAddr 2) [.tm 1],
 u1 5 (.load false 1) [.tm 4],
 u1 6 (.fieldAddr 1) [.tm 1],
 u1 7 (.load false 1) [.tm 6],
 u1 8 (.cmp .eql) [.tm 5, .tm 7],
 u1 9 (.fieldAddr 2) [.tm 1],
 u1 10 (.load false 1) [.tm 9],
 u1 11 (.fieldAddr 1) [.tm 1],
 u1 12 (.load false 1) [.tm 11],
 u1 13 (.cmp .eql) [.tm 10, .tm 12],
 u1 14 (.fieldAddr 2) [.tm 1],
 u1 15 (.load false 1) [.tm 14],
 u1 16 (.fieldAddr 1) [.tm 1],
 u1 17 (.load false 1) [.tm 16],
 u1 18 (.cmp .lss) [.tm 15, .tm 17],
 u1 19 (.build [(.bool false), (.bool false), (.bool false), (.bool false)] [(1, 1), (2, 1), (3, 1)]) [.tm 8, .tm 13, .tm 18],
 u1 3 (.allocArr 4 1 [(.bool false), (.bool false), (.bool false), (.bool false)]) [],
 u0 (.store 4) [.tm 3, .tm 19]])
 (.seq (.seq (.region [u1 20 (.fieldAddr 0) [.tm 1],
 u1 21 (.load false 1) [.tm 20],
 u1 22 (.call 29) [.tm 21, .cn (.int .i64 1), .cn (.int .i64 3)],
 u1 23 .not [.tm 22],
 u1 24 .mov [.tm 23],
 u2 25 24 false (.fieldAddr 0) [.tm 1],
 u2 26 24 false (.load false 1) [.tm 25],
 u2 27 24 false (.idxArr 4 1) [.tm 3, .tm 26],
 u2 28 24 false (.load false 1) [.tm 27],
 u2 29 24 false .not [.tm 28],
 u1 30 .or [.tm 24, .tm 29]])
 (.cond (.tm 30) (.seq (.region [u1 2 .mov [.cn (.int .i64 2)]])
 .ret)
  .skip))
 (.seq (.seq (.region [u1 31 (.fieldAddr 1) [.tm 1],
 u1 32 (.load false 1) [.tm 31],
 u1 33 (.call 29) [.tm 32, .cn (.int .i64 1000), .cn (.int .i64 500000)],
 u1 34 .not [.tm 33],
 u1 35 .mov [.tm 34],
 u2 36 35 false (.fieldAddr 2) [.tm 1],
 u2 37 35 false (.load false 1) [.tm 36],
 u2 38 35 false (.call 29) [.tm 37, .cn (.int .i64 1000), .cn (.int .i64 500000)],
 u2 39 35 false .not [.tm 38],
 u1 40 .or [.tm 35, .tm 39],
 u1 41 .mov [.tm 40],
 u2 42 41 false (.fieldAddr 3) [.tm 1],
 u2 43 41 false (.load false 1) [.tm 42],
 u2 44 41 false (.fieldAddr 1) [.tm 1],
 u2 45 41 false (.load false 1) [.tm 44],
 u2 46 41 false (.ari .mul) [.cn (.int .i64 4), .tm 45],
 u2 47 41 false (.call 29) [.tm 43, .cn (.int .i64 1), .tm 46],
 u2 48 41 false .not [.tm 47],
 u1 49 .or [.tm 41, .tm 48],
 u1 50 .mov [.tm 49],
 u2 51 50 false (.fieldAddr 4) [.tm 1],
 u2 52 50 false (.load false 1) [.tm 51],
 u2 53 50 false (.fieldAddr 1) [.tm 1],
 u2 54 50 false (.load false 1) [.tm 53],
 u2 55 50 false (.ari .mul) [.cn (.int .i64 4), .tm 54],
 u2 56 50 false (.call 29) [.tm 52, .cn (.int .i64 1), .tm 55],
 u2 57 50 false .not [.tm 56],
 u1 58 .or [.tm 50, .tm 57]])
 (.cond (.tm 58) (.seq (.region [u1 2 .mov [.cn (.int .i64 2)]])
 .ret)
  .skip))
 (.seq (.region [u1 2 .mov [.cn (.int .i64 0)]])
 .ret))))) }
theorem v20_is : vfunc Try.prog Try.f20 = some v20 := by kernel_rfl
def v29 : VF := { ntmps := 15, res := [.tmp 6], body :=
 (.seq (.region [u1 6 .mov [.cn (.bool false)]])
 (.seq (.region [u1 7 .mov [.tm 0],
 u1 8 .mov [.tm 1],
 u1 9 (.cmp .geq) [.tm 7, .tm 8],
 u1 10 .mov [.tm 9],
 u2 11 10 true .mov [.tm 0],
 u2 12 10 true .mov [.tm 2],
 u2 13 10 true (.cmp .leq) [.tm 11, .tm 12],
 u1 14 .and [.tm 10, .tm 13],
 u1 6 .mov [.tm 14]])
 .ret)) }
theorem v29_is : vfunc Try.prog Try.f29 = some v29 := by kernel_rfl


def encY (b : Bdy) : List SV := [.int .i64 b.kind, .int .i64 b.bottom, .int .i64 b.top, .int .i64 b.mouth, .int .i64 b.cut]
def chkBC : Ctr := { alias := false, of := fun l => match l with
  | [.agg [.int .i64 a, .int .i64 b, .int .i64 c, .int .i64 d, .int .i64 e]] => .fin (.int .i64 (chkB ⟨a, b, c, d, e⟩)) []
  | _ => noC }
def inC : Ctr := { alias := false, of := fun l => match l with
  | [.int .i64 n, .int .i64 a, .int .i64 b] => .fin (.bool (inF n a b)) []
  | _ => .pre False (.fin (.bool false) []) }
def L00 : Env := { ct := fun _ => none, fn := fun _ => none, meth := fun _ _ => none }
theorem L00_ok : EnvOk Try.prog L00 := by
  refine ⟨fun f c h => ?_, fun f vf h => ?_, (fun _ _ _ h => by cases h), by kernel_rfl, (fun _ h => by cases h)⟩
  · cases h
  · cases h

theorem in_c : inC.ok Try.prog 29 := by
  refine contract Try.func29 v29_is L00_ok 100 inC fun args k h => ?_
  simp only [inC] at h
  split at h
  · rename_i n a b
    refine ⟨[.int .i64 n, .int .i64 a, .int .i64 b], by simp [leL, le], ?_⟩
    dsimp only [v29, go_sem, Option.bind, Option.map, List.append_nil, Nat.beq, List.cons_append, List.nil_append, List.append_eq, List.map_cons, List.map_nil, ite_self, reduceIte]
    simp only [true_and, and_true, imp_self, implies_true, decide_eq_true_eq, decide_eq_false_iff_not, Nat.reduceAdd, Nat.reduceLeDiff, Bool.not_not, reduceCtorEq, false_imp_iff, Bool.not_eq_true', Bool.not_eq_false', Bool.false_eq_true, and_self, forall_const, ne_eq, not_false_eq_true, Nat.reduceEqDiff]
    exact ans_bool h
  · exact h.1.elim
def L0 : Env := { ct := fun n => match n with | 29 => some inC | _ => none, fn := fun _ => none, meth := fun _ _ => none }
theorem L0_ct29 : L0.ct 29 = some inC := rfl
theorem L0_ok : EnvOk Try.prog L0 := by
  refine ⟨fun f c h => ?_, fun f vf h => ?_, (fun _ _ _ h => by cases h), by kernel_rfl, (fun _ h => by cases h)⟩
  · simp only [L0] at h
    split at h
    · cases h; exact ⟨in_c, Try.f29, Try.func29, by kernel_rfl, by kernel_rfl⟩
    · cases h
  · cases h

theorem chkB_c : chkBC.ok Try.prog 20 := by
  refine contract Try.func20 v20_is L0_ok 300 chkBC fun args k h => ?_
  simp only [chkBC] at h
  split at h
  · rename_i a b c d e
    refine ⟨[.agg [.int .i64 a, .int .i64 b, .int .i64 c, .int .i64 d, .int .i64 e]], by simp [leL, le], ?_⟩
    by_cases h1 : a = 1
    · subst h1
      have hin : inF 1 1 3 = true := by decide
      have hsh : shapeF ⟨1, b, c, d, e⟩ = decide (c = b) := rfl
      dsimp only [v20, L0_ct29, inC, Int.reduceToNat, Nat.reduceMul, Int.toNat_zero, Int.toNat_one, go_sem, Option.bind, Option.map, List.append_nil, Nat.beq, List.cons_append, List.nil_append, List.append_eq, List.map_cons, List.map_nil, ite_self, reduceIte]
      simp only [true_and, and_true, imp_self, implies_true, decide_eq_true_eq, decide_eq_false_iff_not, Nat.reduceAdd, Nat.reduceLeDiff, Bool.not_not, reduceCtorEq, false_imp_iff, Bool.not_eq_true', Bool.not_eq_false', Bool.false_eq_true, and_self, forall_const, ne_eq, not_false_eq_true, Nat.reduceEqDiff]
      simp only [chkB, hin, hsh, Bool.true_and] at h
      refine ⟨by decide, by decide, by decide, fun hc => ?_, fun hc => ?_⟩
      · rw [hin, Bool.not_true, Bool.false_or, Bool.not_eq_true'] at hc
        rw [hc, if_neg (by decide)] at h
        exact ans_int h
      · rw [hin, Bool.not_true, Bool.false_or, Bool.not_eq_false'] at hc
        rw [hc, if_pos rfl] at h
        refine ⟨fun hd => ?_, fun hd => ?_⟩
        · rw [if_neg (fun hh => by
            simp only [Bool.and_eq_true] at hh
            rw [hh.1.1.1, hh.1.1.2, hh.1.2, hh.2] at hd
            cases hd)] at h
          exact ans_int h
        · simp only [Bool.or_eq_false_iff, Bool.not_eq_false'] at hd
          rw [if_pos (by simp only [Bool.and_eq_true]; exact hd)] at h
          exact ans_int h
    by_cases h2 : a = 2
    · subst h2
      have hin : inF 2 1 3 = true := by decide
      have hsh : shapeF ⟨2, b, c, d, e⟩ = decide (c = b) := rfl
      dsimp only [v20, L0_ct29, inC, Int.reduceToNat, Nat.reduceMul, Int.toNat_zero, Int.toNat_one, go_sem, Option.bind, Option.map, List.append_nil, Nat.beq, List.cons_append, List.nil_append, List.append_eq, List.map_cons, List.map_nil, ite_self, reduceIte]
      simp only [true_and, and_true, imp_self, implies_true, decide_eq_true_eq, decide_eq_false_iff_not, Nat.reduceAdd, Nat.reduceLeDiff, Bool.not_not, reduceCtorEq, false_imp_iff, Bool.not_eq_true', Bool.not_eq_false', Bool.false_eq_true, and_self, forall_const, ne_eq, not_false_eq_true, Nat.reduceEqDiff]
      simp only [chkB, hin, hsh, Bool.true_and] at h
      refine ⟨by decide, by decide, by decide, fun hc => ?_, fun hc => ?_⟩
      · rw [hin, Bool.not_true, Bool.false_or, Bool.not_eq_true'] at hc
        rw [hc, if_neg (by decide)] at h
        exact ans_int h
      · rw [hin, Bool.not_true, Bool.false_or, Bool.not_eq_false'] at hc
        rw [hc, if_pos rfl] at h
        refine ⟨fun hd => ?_, fun hd => ?_⟩
        · rw [if_neg (fun hh => by
            simp only [Bool.and_eq_true] at hh
            rw [hh.1.1.1, hh.1.1.2, hh.1.2, hh.2] at hd
            cases hd)] at h
          exact ans_int h
        · simp only [Bool.or_eq_false_iff, Bool.not_eq_false'] at hd
          rw [if_pos (by simp only [Bool.and_eq_true]; exact hd)] at h
          exact ans_int h
    by_cases h3 : a = 3
    · subst h3
      have hin : inF 3 1 3 = true := by decide
      have hsh : shapeF ⟨3, b, c, d, e⟩ = decide (c < b) := rfl
      dsimp only [v20, L0_ct29, inC, Int.reduceToNat, Nat.reduceMul, Int.toNat_zero, Int.toNat_one, go_sem, Option.bind, Option.map, List.append_nil, Nat.beq, List.cons_append, List.nil_append, List.append_eq, List.map_cons, List.map_nil, ite_self, reduceIte]
      simp only [true_and, and_true, imp_self, implies_true, decide_eq_true_eq, decide_eq_false_iff_not, Nat.reduceAdd, Nat.reduceLeDiff, Bool.not_not, reduceCtorEq, false_imp_iff, Bool.not_eq_true', Bool.not_eq_false', Bool.false_eq_true, and_self, forall_const, ne_eq, not_false_eq_true, Nat.reduceEqDiff]
      simp only [chkB, hin, hsh, Bool.true_and] at h
      refine ⟨by decide, by decide, by decide, fun hc => ?_, fun hc => ?_⟩
      · rw [hin, Bool.not_true, Bool.false_or, Bool.not_eq_true'] at hc
        rw [hc, if_neg (by decide)] at h
        exact ans_int h
      · rw [hin, Bool.not_true, Bool.false_or, Bool.not_eq_false'] at hc
        rw [hc, if_pos rfl] at h
        refine ⟨fun hd => ?_, fun hd => ?_⟩
        · rw [if_neg (fun hh => by
            simp only [Bool.and_eq_true] at hh
            rw [hh.1.1.1, hh.1.1.2, hh.1.2, hh.2] at hd
            cases hd)] at h
          exact ans_int h
        · simp only [Bool.or_eq_false_iff, Bool.not_eq_false'] at hd
          rw [if_pos (by simp only [Bool.and_eq_true]; exact hd)] at h
          exact ans_int h
    have hin : inF a 1 3 = false := by
      unfold inF
      rw [Bool.and_eq_false_iff, decide_eq_false_iff_not, decide_eq_false_iff_not]
      omega
    dsimp only [v20, L0_ct29, inC, go_sem, Option.bind, Option.map, List.append_nil, Nat.beq, List.cons_append, List.nil_append, List.append_eq, List.map_cons, List.map_nil, ite_self, reduceIte]
    simp only [true_and, and_true, imp_self, implies_true, decide_eq_true_eq, decide_eq_false_iff_not, Nat.reduceAdd, Nat.reduceLeDiff, Bool.not_not, reduceCtorEq, false_imp_iff, Bool.not_eq_true', Bool.not_eq_false', Bool.false_eq_true, and_self, forall_const, ne_eq, not_false_eq_true, Nat.reduceEqDiff]
    rw [hin]
    have hch : chkB ⟨a, b, c, d, e⟩ = 2 := by
      rw [chkB, if_neg (by simp [hin])]
    rw [hch] at h
    by_cases h4 : a ≤ 0
    · rw [show a.toNat = 0 by omega]
      dsimp only [Nat.reduceMul, L0_ct29, inC, go_sem, Option.bind, Option.map, List.append_nil, Nat.beq, List.cons_append, List.nil_append, List.append_eq, List.map_cons, List.map_nil, ite_self, reduceIte]
      simp only [true_and, and_true, imp_self, implies_true, decide_eq_true_eq, decide_eq_false_iff_not, Nat.reduceAdd, Nat.reduceLeDiff, Bool.not_not, reduceCtorEq, false_imp_iff, Bool.not_eq_true', Bool.not_eq_false', Bool.false_eq_true, and_self, forall_const, ne_eq, not_false_eq_true, Nat.reduceEqDiff]
      refine ⟨by decide, fun _ => ans_int h, fun hh => by cases hh⟩
    · obtain ⟨m, hm⟩ : ∃ m, a.toNat = m + 4 := ⟨a.toNat - 4, by omega⟩
      rw [hm, Nat.mul_one]
      have hdn : dropL m [] = [] := by cases m <;> rfl
      dsimp only [go_sem, Option.bind, Option.map, List.append_nil, Nat.beq, List.cons_append, List.nil_append, List.append_eq, List.map_cons, List.map_nil, ite_self, reduceIte]
      rw [hdn]
      dsimp only [L0_ct29, inC, go_sem, Option.bind, Option.map, List.append_nil, Nat.beq, List.cons_append, List.nil_append, List.append_eq, List.map_cons, List.map_nil, ite_self, reduceIte]
      simp only [true_and, and_true, imp_self, implies_true, decide_eq_true_eq, decide_eq_false_iff_not, Nat.reduceAdd, Nat.reduceLeDiff, Bool.not_not, reduceCtorEq, false_imp_iff, Bool.not_eq_true', Bool.not_eq_false', Bool.false_eq_true, and_self, forall_const, ne_eq, not_false_eq_true, Nat.reduceEqDiff]
      refine ⟨by decide, .bool false, ?_⟩
      dsimp only [L0_ct29, inC, go_sem, Option.bind, Option.map, List.append_nil, Nat.beq, List.cons_append, List.nil_append, List.append_eq, List.map_cons, List.map_nil, ite_self, reduceIte]
      simp only [true_and, and_true, imp_self, implies_true, decide_eq_true_eq, decide_eq_false_iff_not, Nat.reduceAdd, Nat.reduceLeDiff, Bool.not_not, reduceCtorEq, false_imp_iff, Bool.not_eq_true', Bool.not_eq_false', Bool.false_eq_true, and_self, forall_const, ne_eq, not_false_eq_true, Nat.reduceEqDiff]
      exact ⟨fun _ => ans_int h, fun hh => by cases hh⟩
  · exact h.1.elim
end Go.Proofs.Ytijadllhfgajlaa

/- Lengths, walked: corrections. -/
/- Lengths, walked: corrections. -/
set_option linter.all false
namespace Go.Proofs.Ytijadllhfgajlaa
open Go Go.Vx
set_option maxRecDepth 100000
set_option maxHeartbeats 4000000

def v33 : VF := { ntmps := 8, res := [.tmp 2], body :=
 (.seq (.region [u1 2 .mov [.cn (.val (.pointer none))]])
 (.seq (.region [u1 3 .mov [.tm 0],
 u1 4 .mov [.tm 0],
 u1 5 (.build [(.int .i64 0), (.int .i64 0)] [(0, 1), (1, 1)]) [.tm 3, .tm 4],
 u1 6 (.build [(.int .i64 0), (.int .i64 0), (.int .i64 0)] [(0, 2)]) [.tm 5],
 u1 7 .box [.tm 6],
 u1 2 .mov [.tm 7]])
 .ret)) }
theorem v33_is : vfunc Try.prog Try.f33 = some v33 := by kernel_rfl
def v13 : VF := { ntmps := 29, res := [.tmp 6], body :=
 (.seq (.region [u1 5 .box [.tm 2],
 u1 6 .mov [.cn (.val (.pointer none))]])
 (.seq (.draw [(7, .box [(.int .i64 0), (.int .i64 0)])] [w1 10 .mov [.tm 1],
 w1 11 .mov [.tm 0],
 w1 12 .nilCheck [.tm 11],
 w1 13 (.fieldAddr 0) [.tm 12],
 w1 14 (.load true 2) [.tm 13],
 w1 15 (.load true 2) [.tm 5],
 w1 16 .callv [.tm 10, .tm 14, .tm 15],
 w1 9 .mov [.tm 16],
 w1 17 (.ext 0) [.tm 9],
 w1 18 (.ext 1) [.tm 9],
 w0 (.store 2) [.tm 7, .tm 17],
 w1 8 .mov [.tm 18]])
 (.seq (.region [u1 19 .mov [.tm 0],
 u1 20 .nilCheck [.tm 19],
 u1 21 (.fieldAddr 2) [.tm 20],
 u1 22 .mov [.tm 8],
 u1 23 (.call 24) [.tm 21, .tm 22]])
 (.seq (.region [u1 24 .mov [.tm 0],
 u1 25 (.load true 2) [.tm 7],
 u1 26 .nilCheck [.tm 24],
 u1 27 (.fieldAddr 0) [.tm 26],
 u0 (.store 2) [.tm 27, .tm 25]])
 (.seq (.region [u1 28 .mov [.tm 0],
 u1 6 .mov [.tm 28]])
 .ret))))) }
theorem v13_is : vfunc Try.prog Try.f13 = some v13 := by kernel_rfl
def v23 : VF := { ntmps := 29, res := [.tmp 6], body :=
 (.seq (.region [u1 6 .mov [.cn (.val (.pointer none))]])
 (.seq (.region [u1 10 .mov [.tm 0],
 u1 11 .nilCheck [.tm 10],
 u1 12 (.fieldAddr 0) [.tm 11],
 u1 13 (.load true 2) [.tm 12],
 u1 14 .mov [.tm 1],
 u1 15 .mov [.tm 2],
 u1 16 (.call 36) [.tm 13, .tm 14, .tm 15],
 u1 9 .mov [.tm 16],
 u1 17 (.ext 0) [.tm 9],
 u1 18 (.ext 1) [.tm 9],
 u1 7 (.alloc [(.int .i64 0), (.int .i64 0)]) [],
 u0 (.store 2) [.tm 7, .tm 17],
 u1 8 .mov [.tm 18]])
 (.seq (.region [u1 19 .mov [.tm 0],
 u1 20 .nilCheck [.tm 19],
 u1 21 (.fieldAddr 2) [.tm 20],
 u1 22 .mov [.tm 8],
 u1 23 (.call 24) [.tm 21, .tm 22]])
 (.seq (.region [u1 24 .mov [.tm 0],
 u1 25 (.load true 2) [.tm 7],
 u1 26 .nilCheck [.tm 24],
 u1 27 (.fieldAddr 0) [.tm 26],
 u0 (.store 2) [.tm 27, .tm 25]])
 (.seq (.region [u1 28 .mov [.tm 0],
 u1 6 .mov [.tm 28]])
 .ret))))) }
theorem v23_is : vfunc Try.prog Try.f23 = some v23 := by kernel_rfl
def v35 : VF := { ntmps := 23, res := [.tmp 2], body :=
 (.seq (.region [u1 2 .mov [.cn (.val (.pointer none))]])
 (.seq (.region [u1 6 .mov [.tm 0],
 u1 7 .nilCheck [.tm 6],
 u1 8 (.fieldAddr 0) [.tm 7],
 u1 9 (.load true 2) [.tm 8],
 u1 10 (.call 43) [.tm 9, .cn (.int .i64 2)],
 u1 5 .mov [.tm 10],
 u1 11 (.ext 0) [.tm 5],
 u1 12 (.ext 1) [.tm 5],
 u1 3 (.alloc [(.int .i64 0), (.int .i64 0)]) [],
 u0 (.store 2) [.tm 3, .tm 11],
 u1 4 .mov [.tm 12]])
 (.seq (.region [u1 13 .mov [.tm 0],
 u1 14 .nilCheck [.tm 13],
 u1 15 (.fieldAddr 2) [.tm 14],
 u1 16 .mov [.tm 4],
 u1 17 (.call 24) [.tm 15, .tm 16]])
 (.seq (.region [u1 18 .mov [.tm 0],
 u1 19 (.load true 2) [.tm 3],
 u1 20 .nilCheck [.tm 18],
 u1 21 (.fieldAddr 0) [.tm 20],
 u0 (.store 2) [.tm 21, .tm 19]])
 (.seq (.region [u1 22 .mov [.tm 0],
 u1 2 .mov [.tm 22]])
 .ret))))) }
theorem v35_is : vfunc Try.prog Try.f35 = some v35 := by kernel_rfl
def v24 : VF := { ntmps := 13, res := [], body :=
 (.seq (.region [u1 4 .mov [.tm 0],
 u1 5 .nilCheck [.tm 4],
 u1 6 (.fieldAddr 0) [.tm 5],
 u1 7 (.load false 1) [.tm 6],
 u1 8 (.cmp .eql) [.tm 7, .cn (.int .i64 0)]])
 (.cond (.tm 8) (.region [u1 9 .mov [.tm 0],
 u1 10 .mov [.tm 1],
 u1 11 .nilCheck [.tm 9],
 u1 12 (.fieldAddr 0) [.tm 11],
 u0 (.store 1) [.tm 12, .tm 10]])
  .skip)) }
theorem v24_is : vfunc Try.prog Try.f24 = some v24 := by kernel_rfl
def v22 : VF := { ntmps := 49, res := [.cell 2 true 2, .cell 3 true 2], body :=
 (.seq (.region [u1 1 .box [.tm 0],
 u1 2 (.alloc [(.int .i64 0), (.int .i64 0)]) [],
 u1 3 (.alloc [(.int .i64 0), (.int .i64 0)]) []])
 (.seq (.region [u1 6 (.fieldAddr 1) [.tm 1],
 u1 7 (.load false 1) [.tm 6],
 u1 8 (.call 33) [.tm 7],
 u1 9 .nilCheck [.tm 8],
 u1 10 (.fieldAddr 0) [.tm 9],
 u1 11 (.load true 2) [.tm 10],
 u1 4 (.alloc [(.int .i64 0), (.int .i64 0)]) [],
 u0 (.store 2) [.tm 4, .tm 11]])
 (.seq (.draw [] [w1 12 (.fieldAddr 3) [.tm 1],
 w1 13 (.load false 1) [.tm 12],
 w1 15 (.fieldAddr 4) [.tm 1],
 w1 16 (.load false 1) [.tm 15],
 w1 14 (.call 33) [.tm 13],
 w1 17 (.call 33) [.tm 16],
 w1 18 .nilCheck [.tm 17],
 w1 19 (.fieldAddr 0) [.tm 18],
 w1 20 (.load true 2) [.tm 19],
 w1 21 (.call 13) [.tm 14, .cn (.fn (.func 34) [] []), .tm 20],
 w1 22 (.call 35) [.tm 21],
 w1 5 .mov [.tm 22]])
 (.seq (.drawT [] (.ops [w1 23 (.fieldAddr 1) [.tm 1]] (.ops [w1 24 (.load false 1) [.tm 23]] (.ops [w1 26 (.load true 2) [.tm 4]] (.br (.ops [w1 25 (.call 33) [.tm 24]] (.br (.ops [w1 27 (.call 13) [.tm 25, .cn (.fn (.func 34) [] []), .tm 26]] (.br (.ops [w1 28 (.call 23) [.tm 27, .cn (.int .i64 575), .cn (.int .i64 1000)]] (.ops [w1 29 .mov [.tm 5]] (.ops [w1 30 .nilCheck [.tm 29]] (.ops [w1 31 (.fieldAddr 0) [.tm 30]] (.ops [w1 32 (.load true 2) [.tm 31]] (.ops [w1 33 (.call 13) [.tm 28, .cn (.fn (.func 14) [] []), .tm 32]] (.ops [w1 34 .nilCheck [.tm 33]] (.ops [w1 35 (.fieldAddr 0) [.tm 34]] (.ops [w1 36 (.load true 2) [.tm 35]] (.ops [w0 (.store 2) [.tm 2, .tm 36]] .leaf))))))))))
 (.ops [w1 29 .mov [.tm 5]] (.br (.ops [w1 28 (.call 23) [.tm 27, .cn (.int .i64 575), .cn (.int .i64 1000)]] (.ops [w1 30 .nilCheck [.tm 29]] (.ops [w1 31 (.fieldAddr 0) [.tm 30]] (.ops [w1 32 (.load true 2) [.tm 31]] (.ops [w1 33 (.call 13) [.tm 28, .cn (.fn (.func 14) [] []), .tm 32]] (.ops [w1 34 .nilCheck [.tm 33]] (.ops [w1 35 (.fieldAddr 0) [.tm 34]] (.ops [w1 36 (.load true 2) [.tm 35]] (.ops [w0 (.store 2) [.tm 2, .tm 36]] .leaf)))))))))
 (.ops [w1 30 .nilCheck [.tm 29]] (.br (.ops [w1 28 (.call 23) [.tm 27, .cn (.int .i64 575), .cn (.int .i64 1000)]] (.ops [w1 31 (.fieldAddr 0) [.tm 30]] (.ops [w1 32 (.load true 2) [.tm 31]] (.ops [w1 33 (.call 13) [.tm 28, .cn (.fn (.func 14) [] []), .tm 32]] (.ops [w1 34 .nilCheck [.tm 33]] (.ops [w1 35 (.fieldAddr 0) [.tm 34]] (.ops [w1 36 (.load true 2) [.tm 35]] (.ops [w0 (.store 2) [.tm 2, .tm 36]] .leaf))))))))
 (.ops [w1 31 (.fieldAddr 0) [.tm 30]] (.br (.ops [w1 28 (.call 23) [.tm 27, .cn (.int .i64 575), .cn (.int .i64 1000)]] (.ops [w1 32 (.load true 2) [.tm 31]] (.ops [w1 33 (.call 13) [.tm 28, .cn (.fn (.func 14) [] []), .tm 32]] (.ops [w1 34 .nilCheck [.tm 33]] (.ops [w1 35 (.fieldAddr 0) [.tm 34]] (.ops [w1 36 (.load true 2) [.tm 35]] (.ops [w0 (.store 2) [.tm 2, .tm 36]] .leaf)))))))
 (.ops [w1 32 (.load true 2) [.tm 31]] (.ops [w1 28 (.call 23) [.tm 27, .cn (.int .i64 575), .cn (.int .i64 1000)]] (.ops [w1 33 (.call 13) [.tm 28, .cn (.fn (.func 14) [] []), .tm 32]] (.ops [w1 34 .nilCheck [.tm 33]] (.ops [w1 35 (.fieldAddr 0) [.tm 34]] (.ops [w1 36 (.load true 2) [.tm 35]] (.ops [w0 (.store 2) [.tm 2, .tm 36]] .leaf)))))))))))))))
 (.ops [w1 29 .mov [.tm 5]] (.br (.ops [w1 27 (.call 13) [.tm 25, .cn (.fn (.func 34) [] []), .tm 26]] (.br (.ops [w1 28 (.call 23) [.tm 27, .cn (.int .i64 575), .cn (.int .i64 1000)]] (.ops [w1 30 .nilCheck [.tm 29]] (.ops [w1 31 (.fieldAddr 0) [.tm 30]] (.ops [w1 32 (.load true 2) [.tm 31]] (.ops [w1 33 (.call 13) [.tm 28, .cn (.fn (.func 14) [] []), .tm 32]] (.ops [w1 34 .nilCheck [.tm 33]] (.ops [w1 35 (.fieldAddr 0) [.tm 34]] (.ops [w1 36 (.load true 2) [.tm 35]] (.ops [w0 (.store 2) [.tm 2, .tm 36]] .leaf)))))))))
 (.ops [w1 30 .nilCheck [.tm 29]] (.br (.ops [w1 28 (.call 23) [.tm 27, .cn (.int .i64 575), .cn (.int .i64 1000)]] (.ops [w1 31 (.fieldAddr 0) [.tm 30]] (.ops [w1 32 (.load true 2) [.tm 31]] (.ops [w1 33 (.call 13) [.tm 28, .cn (.fn (.func 14) [] []), .tm 32]] (.ops [w1 34 .nilCheck [.tm 33]] (.ops [w1 35 (.fieldAddr 0) [.tm 34]] (.ops [w1 36 (.load true 2) [.tm 35]] (.ops [w0 (.store 2) [.tm 2, .tm 36]] .leaf))))))))
 (.ops [w1 31 (.fieldAddr 0) [.tm 30]] (.br (.ops [w1 28 (.call 23) [.tm 27, .cn (.int .i64 575), .cn (.int .i64 1000)]] (.ops [w1 32 (.load true 2) [.tm 31]] (.ops [w1 33 (.call 13) [.tm 28, .cn (.fn (.func 14) [] []), .tm 32]] (.ops [w1 34 .nilCheck [.tm 33]] (.ops [w1 35 (.fieldAddr 0) [.tm 34]] (.ops [w1 36 (.load true 2) [.tm 35]] (.ops [w0 (.store 2) [.tm 2, .tm 36]] .leaf)))))))
 (.ops [w1 32 (.load true 2) [.tm 31]] (.ops [w1 28 (.call 23) [.tm 27, .cn (.int .i64 575), .cn (.int .i64 1000)]] (.ops [w1 33 (.call 13) [.tm 28, .cn (.fn (.func 14) [] []), .tm 32]] (.ops [w1 34 .nilCheck [.tm 33]] (.ops [w1 35 (.fieldAddr 0) [.tm 34]] (.ops [w1 36 (.load true 2) [.tm 35]] (.ops [w0 (.store 2) [.tm 2, .tm 36]] .leaf)))))))))))))
 (.ops [w1 30 .nilCheck [.tm 29]] (.br (.ops [w1 27 (.call 13) [.tm 25, .cn (.fn (.func 34) [] []), .tm 26]] (.br (.ops [w1 28 (.call 23) [.tm 27, .cn (.int .i64 575), .cn (.int .i64 1000)]] (.ops [w1 31 (.fieldAddr 0) [.tm 30]] (.ops [w1 32 (.load true 2) [.tm 31]] (.ops [w1 33 (.call 13) [.tm 28, .cn (.fn (.func 14) [] []), .tm 32]] (.ops [w1 34 .nilCheck [.tm 33]] (.ops [w1 35 (.fieldAddr 0) [.tm 34]] (.ops [w1 36 (.load true 2) [.tm 35]] (.ops [w0 (.store 2) [.tm 2, .tm 36]] .leaf))))))))
 (.ops [w1 31 (.fieldAddr 0) [.tm 30]] (.br (.ops [w1 28 (.call 23) [.tm 27, .cn (.int .i64 575), .cn (.int .i64 1000)]] (.ops [w1 32 (.load true 2) [.tm 31]] (.ops [w1 33 (.call 13) [.tm 28, .cn (.fn (.func 14) [] []), .tm 32]] (.ops [w1 34 .nilCheck [.tm 33]] (.ops [w1 35 (.fieldAddr 0) [.tm 34]] (.ops [w1 36 (.load true 2) [.tm 35]] (.ops [w0 (.store 2) [.tm 2, .tm 36]] .leaf)))))))
 (.ops [w1 32 (.load true 2) [.tm 31]] (.ops [w1 28 (.call 23) [.tm 27, .cn (.int .i64 575), .cn (.int .i64 1000)]] (.ops [w1 33 (.call 13) [.tm 28, .cn (.fn (.func 14) [] []), .tm 32]] (.ops [w1 34 .nilCheck [.tm 33]] (.ops [w1 35 (.fieldAddr 0) [.tm 34]] (.ops [w1 36 (.load true 2) [.tm 35]] (.ops [w0 (.store 2) [.tm 2, .tm 36]] .leaf)))))))))))
 (.ops [w1 31 (.fieldAddr 0) [.tm 30]] (.br (.ops [w1 27 (.call 13) [.tm 25, .cn (.fn (.func 34) [] []), .tm 26]] (.br (.ops [w1 28 (.call 23) [.tm 27, .cn (.int .i64 575), .cn (.int .i64 1000)]] (.ops [w1 32 (.load true 2) [.tm 31]] (.ops [w1 33 (.call 13) [.tm 28, .cn (.fn (.func 14) [] []), .tm 32]] (.ops [w1 34 .nilCheck [.tm 33]] (.ops [w1 35 (.fieldAddr 0) [.tm 34]] (.ops [w1 36 (.load true 2) [.tm 35]] (.ops [w0 (.store 2) [.tm 2, .tm 36]] .leaf)))))))
 (.ops [w1 32 (.load true 2) [.tm 31]] (.ops [w1 28 (.call 23) [.tm 27, .cn (.int .i64 575), .cn (.int .i64 1000)]] (.ops [w1 33 (.call 13) [.tm 28, .cn (.fn (.func 14) [] []), .tm 32]] (.ops [w1 34 .nilCheck [.tm 33]] (.ops [w1 35 (.fieldAddr 0) [.tm 34]] (.ops [w1 36 (.load true 2) [.tm 35]] (.ops [w0 (.store 2) [.tm 2, .tm 36]] .leaf)))))))))
 (.ops [w1 32 (.load true 2) [.tm 31]] (.ops [w1 27 (.call 13) [.tm 25, .cn (.fn (.func 34) [] []), .tm 26]] (.ops [w1 28 (.call 23) [.tm 27, .cn (.int .i64 575), .cn (.int .i64 1000)]] (.ops [w1 33 (.call 13) [.tm 28, .cn (.fn (.func 14) [] []), .tm 32]] (.ops [w1 34 .nilCheck [.tm 33]] (.ops [w1 35 (.fieldAddr 0) [.tm 34]] (.ops [w1 36 (.load true 2) [.tm 35]] (.ops [w0 (.store 2) [.tm 2, .tm 36]] .leaf))))))))))))))))
 (.ops [w1 29 .mov [.tm 5]] (.br (.ops [w1 25 (.call 33) [.tm 24]] (.br (.ops [w1 27 (.call 13) [.tm 25, .cn (.fn (.func 34) [] []), .tm 26]] (.br (.ops [w1 28 (.call 23) [.tm 27, .cn (.int .i64 575), .cn (.int .i64 1000)]] (.ops [w1 30 .nilCheck [.tm 29]] (.ops [w1 31 (.fieldAddr 0) [.tm 30]] (.ops [w1 32 (.load true 2) [.tm 31]] (.ops [w1 33 (.call 13) [.tm 28, .cn (.fn (.func 14) [] []), .tm 32]] (.ops [w1 34 .nilCheck [.tm 33]] (.ops [w1 35 (.fieldAddr 0) [.tm 34]] (.ops [w1 36 (.load true 2) [.tm 35]] (.ops [w0 (.store 2) [.tm 2, .tm 36]] .leaf)))))))))
 (.ops [w1 30 .nilCheck [.tm 29]] (.br (.ops [w1 28 (.call 23) [.tm 27, .cn (.int .i64 575), .cn (.int .i64 1000)]] (.ops [w1 31 (.fieldAddr 0) [.tm 30]] (.ops [w1 32 (.load true 2) [.tm 31]] (.ops [w1 33 (.call 13) [.tm 28, .cn (.fn (.func 14) [] []), .tm 32]] (.ops [w1 34 .nilCheck [.tm 33]] (.ops [w1 35 (.fieldAddr 0) [.tm 34]] (.ops [w1 36 (.load true 2) [.tm 35]] (.ops [w0 (.store 2) [.tm 2, .tm 36]] .leaf))))))))
 (.ops [w1 31 (.fieldAddr 0) [.tm 30]] (.br (.ops [w1 28 (.call 23) [.tm 27, .cn (.int .i64 575), .cn (.int .i64 1000)]] (.ops [w1 32 (.load true 2) [.tm 31]] (.ops [w1 33 (.call 13) [.tm 28, .cn (.fn (.func 14) [] []), .tm 32]] (.ops [w1 34 .nilCheck [.tm 33]] (.ops [w1 35 (.fieldAddr 0) [.tm 34]] (.ops [w1 36 (.load true 2) [.tm 35]] (.ops [w0 (.store 2) [.tm 2, .tm 36]] .leaf)))))))
 (.ops [w1 32 (.load true 2) [.tm 31]] (.ops [w1 28 (.call 23) [.tm 27, .cn (.int .i64 575), .cn (.int .i64 1000)]] (.ops [w1 33 (.call 13) [.tm 28, .cn (.fn (.func 14) [] []), .tm 32]] (.ops [w1 34 .nilCheck [.tm 33]] (.ops [w1 35 (.fieldAddr 0) [.tm 34]] (.ops [w1 36 (.load true 2) [.tm 35]] (.ops [w0 (.store 2) [.tm 2, .tm 36]] .leaf)))))))))))))
 (.ops [w1 30 .nilCheck [.tm 29]] (.br (.ops [w1 27 (.call 13) [.tm 25, .cn (.fn (.func 34) [] []), .tm 26]] (.br (.ops [w1 28 (.call 23) [.tm 27, .cn (.int .i64 575), .cn (.int .i64 1000)]] (.ops [w1 31 (.fieldAddr 0) [.tm 30]] (.ops [w1 32 (.load true 2) [.tm 31]] (.ops [w1 33 (.call 13) [.tm 28, .cn (.fn (.func 14) [] []), .tm 32]] (.ops [w1 34 .nilCheck [.tm 33]] (.ops [w1 35 (.fieldAddr 0) [.tm 34]] (.ops [w1 36 (.load true 2) [.tm 35]] (.ops [w0 (.store 2) [.tm 2, .tm 36]] .leaf))))))))
 (.ops [w1 31 (.fieldAddr 0) [.tm 30]] (.br (.ops [w1 28 (.call 23) [.tm 27, .cn (.int .i64 575), .cn (.int .i64 1000)]] (.ops [w1 32 (.load true 2) [.tm 31]] (.ops [w1 33 (.call 13) [.tm 28, .cn (.fn (.func 14) [] []), .tm 32]] (.ops [w1 34 .nilCheck [.tm 33]] (.ops [w1 35 (.fieldAddr 0) [.tm 34]] (.ops [w1 36 (.load true 2) [.tm 35]] (.ops [w0 (.store 2) [.tm 2, .tm 36]] .leaf)))))))
 (.ops [w1 32 (.load true 2) [.tm 31]] (.ops [w1 28 (.call 23) [.tm 27, .cn (.int .i64 575), .cn (.int .i64 1000)]] (.ops [w1 33 (.call 13) [.tm 28, .cn (.fn (.func 14) [] []), .tm 32]] (.ops [w1 34 .nilCheck [.tm 33]] (.ops [w1 35 (.fieldAddr 0) [.tm 34]] (.ops [w1 36 (.load true 2) [.tm 35]] (.ops [w0 (.store 2) [.tm 2, .tm 36]] .leaf)))))))))))
 (.ops [w1 31 (.fieldAddr 0) [.tm 30]] (.br (.ops [w1 27 (.call 13) [.tm 25, .cn (.fn (.func 34) [] []), .tm 26]] (.br (.ops [w1 28 (.call 23) [.tm 27, .cn (.int .i64 575), .cn (.int .i64 1000)]] (.ops [w1 32 (.load true 2) [.tm 31]] (.ops [w1 33 (.call 13) [.tm 28, .cn (.fn (.func 14) [] []), .tm 32]] (.ops [w1 34 .nilCheck [.tm 33]] (.ops [w1 35 (.fieldAddr 0) [.tm 34]] (.ops [w1 36 (.load true 2) [.tm 35]] (.ops [w0 (.store 2) [.tm 2, .tm 36]] .leaf)))))))
 (.ops [w1 32 (.load true 2) [.tm 31]] (.ops [w1 28 (.call 23) [.tm 27, .cn (.int .i64 575), .cn (.int .i64 1000)]] (.ops [w1 33 (.call 13) [.tm 28, .cn (.fn (.func 14) [] []), .tm 32]] (.ops [w1 34 .nilCheck [.tm 33]] (.ops [w1 35 (.fieldAddr 0) [.tm 34]] (.ops [w1 36 (.load true 2) [.tm 35]] (.ops [w0 (.store 2) [.tm 2, .tm 36]] .leaf)))))))))
 (.ops [w1 32 (.load true 2) [.tm 31]] (.ops [w1 27 (.call 13) [.tm 25, .cn (.fn (.func 34) [] []), .tm 26]] (.ops [w1 28 (.call 23) [.tm 27, .cn (.int .i64 575), .cn (.int .i64 1000)]] (.ops [w1 33 (.call 13) [.tm 28, .cn (.fn (.func 14) [] []), .tm 32]] (.ops [w1 34 .nilCheck [.tm 33]] (.ops [w1 35 (.fieldAddr 0) [.tm 34]] (.ops [w1 36 (.load true 2) [.tm 35]] (.ops [w0 (.store 2) [.tm 2, .tm 36]] .leaf))))))))))))))
 (.ops [w1 30 .nilCheck [.tm 29]] (.br (.ops [w1 25 (.call 33) [.tm 24]] (.br (.ops [w1 27 (.call 13) [.tm 25, .cn (.fn (.func 34) [] []), .tm 26]] (.br (.ops [w1 28 (.call 23) [.tm 27, .cn (.int .i64 575), .cn (.int .i64 1000)]] (.ops [w1 31 (.fieldAddr 0) [.tm 30]] (.ops [w1 32 (.load true 2) [.tm 31]] (.ops [w1 33 (.call 13) [.tm 28, .cn (.fn (.func 14) [] []), .tm 32]] (.ops [w1 34 .nilCheck [.tm 33]] (.ops [w1 35 (.fieldAddr 0) [.tm 34]] (.ops [w1 36 (.load true 2) [.tm 35]] (.ops [w0 (.store 2) [.tm 2, .tm 36]] .leaf))))))))
 (.ops [w1 31 (.fieldAddr 0) [.tm 30]] (.br (.ops [w1 28 (.call 23) [.tm 27, .cn (.int .i64 575), .cn (.int .i64 1000)]] (.ops [w1 32 (.load true 2) [.tm 31]] (.ops [w1 33 (.call 13) [.tm 28, .cn (.fn (.func 14) [] []), .tm 32]] (.ops [w1 34 .nilCheck [.tm 33]] (.ops [w1 35 (.fieldAddr 0) [.tm 34]] (.ops [w1 36 (.load true 2) [.tm 35]] (.ops [w0 (.store 2) [.tm 2, .tm 36]] .leaf)))))))
 (.ops [w1 32 (.load true 2) [.tm 31]] (.ops [w1 28 (.call 23) [.tm 27, .cn (.int .i64 575), .cn (.int .i64 1000)]] (.ops [w1 33 (.call 13) [.tm 28, .cn (.fn (.func 14) [] []), .tm 32]] (.ops [w1 34 .nilCheck [.tm 33]] (.ops [w1 35 (.fieldAddr 0) [.tm 34]] (.ops [w1 36 (.load true 2) [.tm 35]] (.ops [w0 (.store 2) [.tm 2, .tm 36]] .leaf)))))))))))
 (.ops [w1 31 (.fieldAddr 0) [.tm 30]] (.br (.ops [w1 27 (.call 13) [.tm 25, .cn (.fn (.func 34) [] []), .tm 26]] (.br (.ops [w1 28 (.call 23) [.tm 27, .cn (.int .i64 575), .cn (.int .i64 1000)]] (.ops [w1 32 (.load true 2) [.tm 31]] (.ops [w1 33 (.call 13) [.tm 28, .cn (.fn (.func 14) [] []), .tm 32]] (.ops [w1 34 .nilCheck [.tm 33]] (.ops [w1 35 (.fieldAddr 0) [.tm 34]] (.ops [w1 36 (.load true 2) [.tm 35]] (.ops [w0 (.store 2) [.tm 2, .tm 36]] .leaf)))))))
 (.ops [w1 32 (.load true 2) [.tm 31]] (.ops [w1 28 (.call 23) [.tm 27, .cn (.int .i64 575), .cn (.int .i64 1000)]] (.ops [w1 33 (.call 13) [.tm 28, .cn (.fn (.func 14) [] []), .tm 32]] (.ops [w1 34 .nilCheck [.tm 33]] (.ops [w1 35 (.fieldAddr 0) [.tm 34]] (.ops [w1 36 (.load true 2) [.tm 35]] (.ops [w0 (.store 2) [.tm 2, .tm 36]] .leaf)))))))))
 (.ops [w1 32 (.load true 2) [.tm 31]] (.ops [w1 27 (.call 13) [.tm 25, .cn (.fn (.func 34) [] []), .tm 26]] (.ops [w1 28 (.call 23) [.tm 27, .cn (.int .i64 575), .cn (.int .i64 1000)]] (.ops [w1 33 (.call 13) [.tm 28, .cn (.fn (.func 14) [] []), .tm 32]] (.ops [w1 34 .nilCheck [.tm 33]] (.ops [w1 35 (.fieldAddr 0) [.tm 34]] (.ops [w1 36 (.load true 2) [.tm 35]] (.ops [w0 (.store 2) [.tm 2, .tm 36]] .leaf))))))))))))
 (.ops [w1 31 (.fieldAddr 0) [.tm 30]] (.br (.ops [w1 25 (.call 33) [.tm 24]] (.br (.ops [w1 27 (.call 13) [.tm 25, .cn (.fn (.func 34) [] []), .tm 26]] (.br (.ops [w1 28 (.call 23) [.tm 27, .cn (.int .i64 575), .cn (.int .i64 1000)]] (.ops [w1 32 (.load true 2) [.tm 31]] (.ops [w1 33 (.call 13) [.tm 28, .cn (.fn (.func 14) [] []), .tm 32]] (.ops [w1 34 .nilCheck [.tm 33]] (.ops [w1 35 (.fieldAddr 0) [.tm 34]] (.ops [w1 36 (.load true 2) [.tm 35]] (.ops [w0 (.store 2) [.tm 2, .tm 36]] .leaf)))))))
 (.ops [w1 32 (.load true 2) [.tm 31]] (.ops [w1 28 (.call 23) [.tm 27, .cn (.int .i64 575), .cn (.int .i64 1000)]] (.ops [w1 33 (.call 13) [.tm 28, .cn (.fn (.func 14) [] []), .tm 32]] (.ops [w1 34 .nilCheck [.tm 33]] (.ops [w1 35 (.fieldAddr 0) [.tm 34]] (.ops [w1 36 (.load true 2) [.tm 35]] (.ops [w0 (.store 2) [.tm 2, .tm 36]] .leaf)))))))))
 (.ops [w1 32 (.load true 2) [.tm 31]] (.ops [w1 27 (.call 13) [.tm 25, .cn (.fn (.func 34) [] []), .tm 26]] (.ops [w1 28 (.call 23) [.tm 27, .cn (.int .i64 575), .cn (.int .i64 1000)]] (.ops [w1 33 (.call 13) [.tm 28, .cn (.fn (.func 14) [] []), .tm 32]] (.ops [w1 34 .nilCheck [.tm 33]] (.ops [w1 35 (.fieldAddr 0) [.tm 34]] (.ops [w1 36 (.load true 2) [.tm 35]] (.ops [w0 (.store 2) [.tm 2, .tm 36]] .leaf))))))))))
 (.ops [w1 32 (.load true 2) [.tm 31]] (.ops [w1 25 (.call 33) [.tm 24]] (.ops [w1 27 (.call 13) [.tm 25, .cn (.fn (.func 34) [] []), .tm 26]] (.ops [w1 28 (.call 23) [.tm 27, .cn (.int .i64 575), .cn (.int .i64 1000)]] (.ops [w1 33 (.call 13) [.tm 28, .cn (.fn (.func 14) [] []), .tm 32]] (.ops [w1 34 .nilCheck [.tm 33]] (.ops [w1 35 (.fieldAddr 0) [.tm 34]] (.ops [w1 36 (.load true 2) [.tm 35]] (.ops [w0 (.store 2) [.tm 2, .tm 36]] .leaf))))))))))))))))))))
 (.seq (.seq (.region [u1 37 (.fieldAddr 0) [.tm 1],
 u1 38 (.load false 1) [.tm 37],
 u1 39 (.cmp .neq) [.tm 38, .cn (.int .i64 2)]])
 (.cond (.tm 39) (.region [u1 40 (.fieldAddr 2) [.tm 1],
 u1 41 (.load false 1) [.tm 40],
 u1 42 (.call 33) [.tm 41],
 u1 43 (.call 23) [.tm 42, .cn (.int .i64 30665), .cn (.int .i64 100000)],
 u1 44 .nilCheck [.tm 43],
 u1 45 (.fieldAddr 0) [.tm 44],
 u1 46 (.load true 2) [.tm 45],
 u0 (.store 2) [.tm 3, .tm 46]])
  .skip))
 (.seq (.draw [] [w1 47 (.load true 2) [.tm 2],
 w1 48 (.load true 2) [.tm 3],
 ⟨u0 (.store 2) [.tm 2, .tm 47], [.tm 3]⟩,
 w0 (.store 2) [.tm 3, .tm 48]])
 .ret)))))) }
theorem v22_is : vfunc Try.prog Try.f22 = some v22 := by kernel_rfl


/-- A number, as a sum to go on with: it lies in a block of its own. -/
def ofSC : Ctr := { alias := false, of := fun l => match l with
  | [.int .i64 n] => .fin (.ptr 0 0) [.box [.int .i64 n, .int .i64 n, .int .i64 0]]
  | _ => noC }
def L2 : Env := { ct := fun _ => none, fn := fun _ => none, meth := fun _ _ => none }
theorem L2_ok : EnvOk Try.prog L2 := by
  refine ⟨fun f c h => ?_, fun f vf h => ?_, (fun _ _ _ h => by cases h), by kernel_rfl, (fun _ h => by cases h)⟩
  · cases h
  · cases h

theorem ofS_c : ofSC.ok Try.prog 33 := by
  refine contract_own Try.func33 v33_is L2_ok 100 ofSC fun args k h => ?_
  simp only [ofSC] at h
  split at h
  · rename_i n
    refine ⟨[.int .i64 n], by simp [leL, le], ?_⟩
    dsimp only [v33, go_sem, Option.bind, Option.map, List.append_nil, Nat.beq, List.cons_append, List.nil_append, List.append_eq, List.map_cons, List.map_nil, ite_self, reduceIte]
    simp only [true_and, and_true, imp_self, implies_true, decide_eq_true_eq, decide_eq_false_iff_not, Nat.reduceAdd, Nat.reduceLeDiff, Bool.not_not, reduceCtorEq, false_imp_iff, Bool.not_eq_true', Bool.not_eq_false', Bool.false_eq_true, and_self, forall_const, ne_eq, not_false_eq_true, Nat.reduceEqDiff]
    exact ⟨h, trivial, ⟨trivial, trivial, trivial, trivial⟩, trivial⟩
  · exact h.1.elim

def corC : Ctr := { alias := false, of := fun l => match l with
  | [.agg [.int .i64 a, .int .i64 b, .int .i64 c, .int .i64 d, .int .i64 e]] => .pre (chkB ⟨a, b, c, d, e⟩ = 0) (.fin (.tup [.agg (enc2 (mouthF ⟨a, b, c, d, e⟩)), .agg (enc2 (endF ⟨a, b, c, d, e⟩))]) [])
  | _ => noC }
theorem ans_cor {k : SV → List HO → Prop} {al : Bool} {hp : List HO} {p q : Iv} (h : k (.tup [.agg (enc2 p), .agg (enc2 q)]) []) : answers al k (.tup [.agg [.int .i64 p.1, .int .i64 p.2], .agg [.int .i64 q.1, .int .i64 q.2]]) hp :=
  ans_le (show k _ [] from h) (le_self (.tup [.agg [.int .i64 p.1, .int .i64 p.2], .agg [.int .i64 q.1, .int .i64 q.2]]) ⟨⟨trivial, trivial, trivial⟩, ⟨trivial, trivial, trivial⟩, trivial⟩) (fun _ => by simp [enc2, freshS, freshL])
def L1 : Env := { ct := fun n => match n with | 34 => some mulC | 14 => some quoC | 36 => some sclC | 43 => some rootC | 33 => some ofSC | _ => none, fn := fun n => match n with | 13 => some v13 | 23 => some v23 | 35 => some v35 | 24 => some v24 | _ => none, meth := fun _ _ => none, lo := fun n => match n with | 13 => true | 23 => true | 35 => true | _ => false }
theorem L1_ct34 : L1.ct 34 = some mulC := rfl
theorem L1_ct14 : L1.ct 14 = some quoC := rfl
theorem L1_ct36 : L1.ct 36 = some sclC := rfl
theorem L1_ct43 : L1.ct 43 = some rootC := rfl
theorem L1_ct33 : L1.ct 33 = some ofSC := rfl
theorem L1_ct13 : L1.ct 13 = none := rfl
theorem L1_fn13 : L1.fn 13 = some v13 := rfl
theorem L1_ct23 : L1.ct 23 = none := rfl
theorem L1_fn23 : L1.fn 23 = some v23 := rfl
theorem L1_ct35 : L1.ct 35 = none := rfl
theorem L1_fn35 : L1.fn 35 = some v35 := rfl
theorem L1_ct24 : L1.ct 24 = none := rfl
theorem L1_fn24 : L1.fn 24 = some v24 := rfl
theorem L1_ok : EnvOk Try.prog L1 := by
  refine ⟨fun f c h => ?_, fun f vf h => ?_, (fun _ _ _ h => by cases h), by kernel_rfl, fun f h => ?_⟩
  · simp only [L1] at h
    split at h
    · cases h; exact ⟨mul_ok, Try.f34, Try.func34, by kernel_rfl, by kernel_rfl⟩
    · cases h; exact ⟨quo_ok, Try.f14, Try.func14, by kernel_rfl, by kernel_rfl⟩
    · cases h; exact ⟨scl_ok, Try.f36, Try.func36, by kernel_rfl, by kernel_rfl⟩
    · cases h; exact ⟨root_ok, Try.f43, Try.func43, by kernel_rfl, by kernel_rfl⟩
    · cases h; exact ⟨ofS_c, Try.f33, Try.func33, by kernel_rfl, by kernel_rfl⟩
    · cases h
  · simp only [L1] at h
    split at h
    · cases h; exact ⟨Try.f13, Try.func13, v13_is, Try.f13, Try.func13, by kernel_rfl, by kernel_rfl⟩
    · cases h; exact ⟨Try.f23, Try.func23, v23_is, Try.f23, Try.func23, by kernel_rfl, by kernel_rfl⟩
    · cases h; exact ⟨Try.f35, Try.func35, v35_is, Try.f35, Try.func35, by kernel_rfl, by kernel_rfl⟩
    · cases h; exact ⟨Try.f24, Try.func24, v24_is, Try.f24, Try.func24, by kernel_rfl, by kernel_rfl⟩
    · cases h
  · simp only [L1] at h
    split at h
    · kernel_rfl
    · kernel_rfl
    · kernel_rfl
    · cases h
theorem L1_lo13 : L1.lo 13 = true := rfl
theorem L1_lo23 : L1.lo 23 = true := rfl
theorem L1_lo35 : L1.lo 35 = true := rfl

theorem cor_c : corC.ok Try.prog 22 := by
  refine contract Try.func22 v22_is L1_ok 600 corC fun args k h => ?_
  simp only [corC] at h
  split at h
  · rename_i a b c d e
    obtain ⟨hchk, h⟩ := h
    obtain ⟨_, ⟨b0, b1⟩, ⟨c0, c1⟩, ⟨d0, d1⟩, e0, e1⟩ := chkB_ok hchk
    dsimp only at b0 b1 c0 c1 d0 d1 e0 e1
    have M1 : (mulF (d, d) (e, e)).2 = 0 := by rw [mul_e0 (by omega) d1 (by omega) e1]
    have M2 : (mulF (b, b) (b, b)).2 = 0 := by rw [mul_e0 (by omega) (by omega) (by omega) (by omega)]
    have M3 : (sclF ((mulF (b, b) (b, b)).1.1, (mulF (b, b) (b, b)).1.2) 575 1000).2 = 0 := by
      have hb1 : b * b ≤ 500000 * 500000 := mul_le' b1 b1 (by omega) (by decide)
      have hb0 : 0 ≤ b * b := Int.mul_nonneg (by omega) (by omega)
      rw [mul_e0 (by omega) (by omega) (by omega) (by omega)]
      exact scl_e0 hb0 (Int.le_refl _) (by simp only; omega) (by decide) (by decide) (by decide) (by decide)
    have hN : ¬ a = 2 → k (.tup [.agg (enc2 (mouthF ⟨a, b, c, d, e⟩)), .agg (enc2 (sclF (c, c) 30665 100000).1)]) [] := fun hc => by
      have h : k (.tup [.agg (enc2 (mouthF ⟨a, b, c, d, e⟩)), .agg (enc2 (endF ⟨a, b, c, d, e⟩))]) [] := h
      rw [endF, if_neg hc] at h; exact h
    have hY : a = 2 → k (.tup [.agg (enc2 (mouthF ⟨a, b, c, d, e⟩)), .agg (enc2 ((0, 0) : Iv))]) [] := fun hc => by
      have h : k (.tup [.agg (enc2 (mouthF ⟨a, b, c, d, e⟩)), .agg (enc2 (endF ⟨a, b, c, d, e⟩))]) [] := h
      rw [endF, if_pos hc] at h; exact h
    refine ⟨[.agg [.int .i64 a, .int .i64 b, .int .i64 c, .int .i64 d, .int .i64 e]], by simp [leL, le], ?_⟩
    dsimp only [v22, L1_ct34, L1_ct14, L1_ct36, L1_ct43, L1_ct33, ofSC, mulC, quoC, sclC, rootC, iv2C, ivoC, enc2, L1_ct13, L1_fn13, L1_lo13, v13, L1_ct23, L1_fn23, L1_lo23, v23, L1_ct35, L1_fn35, L1_lo35, v35, L1_ct24, L1_fn24, v24, go_sem, Option.bind, Option.map, List.append_nil, Nat.beq, List.cons_append, List.nil_append, List.append_eq, List.map_cons, List.map_nil, ite_self, reduceIte]
    simp only [true_and, and_true, imp_self, implies_true, decide_eq_true_eq, decide_eq_false_iff_not, Nat.reduceAdd, Nat.reduceLeDiff, Bool.not_not, reduceCtorEq, false_imp_iff, Bool.not_eq_true', Bool.not_eq_false', Bool.false_eq_true, and_self, forall_const, ne_eq, not_false_eq_true, Nat.reduceEqDiff]
    (refine enter_at _ (by ((try dsimp only [L1_ct34, L1_ct14, L1_ct36, L1_ct43, L1_ct33, ofSC, mulC, quoC, sclC, rootC, iv2C, ivoC, enc2, L1_ct13, L1_fn13, L1_lo13, v13, L1_ct23, L1_fn23, L1_lo23, v23, L1_ct35, L1_fn35, L1_lo35, v35, L1_ct24, L1_fn24, v24, go_sem, Option.bind, Option.map, List.append_nil, Nat.beq, List.cons_append, List.nil_append, List.append_eq, List.map_cons, List.map_nil, ite_self, reduceIte]); (try simp only [true_and, and_true, imp_self, implies_true, decide_eq_true_eq, decide_eq_false_iff_not, Nat.reduceAdd, Nat.reduceLeDiff, Bool.not_not, reduceCtorEq, false_imp_iff, Bool.not_eq_true', Bool.not_eq_false', Bool.false_eq_true, and_self, forall_const, ne_eq, not_false_eq_true, Nat.reduceEqDiff])); exact ⟨by decide, by decide, rfl, fun hh => absurd trivial hh⟩) ?_; (try simp only [M1, M2, M3]); ((try dsimp only [L1_ct34, L1_ct14, L1_ct36, L1_ct43, L1_ct33, ofSC, mulC, quoC, sclC, rootC, iv2C, ivoC, enc2, L1_ct13, L1_fn13, L1_lo13, v13, L1_ct23, L1_fn23, L1_lo23, v23, L1_ct35, L1_fn35, L1_lo35, v35, L1_ct24, L1_fn24, v24, go_sem, Option.bind, Option.map, List.append_nil, Nat.beq, List.cons_append, List.nil_append, List.append_eq, List.map_cons, List.map_nil, ite_self, reduceIte]); (try simp only [true_and, and_true, imp_self, implies_true, decide_eq_true_eq, decide_eq_false_iff_not, Nat.reduceAdd, Nat.reduceLeDiff, Bool.not_not, reduceCtorEq, false_imp_iff, Bool.not_eq_true', Bool.not_eq_false', Bool.false_eq_true, and_self, forall_const, ne_eq, not_false_eq_true, Nat.reduceEqDiff])))
    (refine enter_at _ (by ((try dsimp only [L1_ct34, L1_ct14, L1_ct36, L1_ct43, L1_ct33, ofSC, mulC, quoC, sclC, rootC, iv2C, ivoC, enc2, L1_ct13, L1_fn13, L1_lo13, v13, L1_ct23, L1_fn23, L1_lo23, v23, L1_ct35, L1_fn35, L1_lo35, v35, L1_ct24, L1_fn24, v24, go_sem, Option.bind, Option.map, List.append_nil, Nat.beq, List.cons_append, List.nil_append, List.append_eq, List.map_cons, List.map_nil, ite_self, reduceIte]); (try simp only [true_and, and_true, imp_self, implies_true, decide_eq_true_eq, decide_eq_false_iff_not, Nat.reduceAdd, Nat.reduceLeDiff, Bool.not_not, reduceCtorEq, false_imp_iff, Bool.not_eq_true', Bool.not_eq_false', Bool.false_eq_true, and_self, forall_const, ne_eq, not_false_eq_true, Nat.reduceEqDiff])); exact ⟨by decide, by decide, rfl, fun hh => absurd trivial hh⟩) ?_; (try simp only [M1, M2, M3]); ((try dsimp only [L1_ct34, L1_ct14, L1_ct36, L1_ct43, L1_ct33, ofSC, mulC, quoC, sclC, rootC, iv2C, ivoC, enc2, L1_ct13, L1_fn13, L1_lo13, v13, L1_ct23, L1_fn23, L1_lo23, v23, L1_ct35, L1_fn35, L1_lo35, v35, L1_ct24, L1_fn24, v24, go_sem, Option.bind, Option.map, List.append_nil, Nat.beq, List.cons_append, List.nil_append, List.append_eq, List.map_cons, List.map_nil, ite_self, reduceIte]); (try simp only [true_and, and_true, imp_self, implies_true, decide_eq_true_eq, decide_eq_false_iff_not, Nat.reduceAdd, Nat.reduceLeDiff, Bool.not_not, reduceCtorEq, false_imp_iff, Bool.not_eq_true', Bool.not_eq_false', Bool.false_eq_true, and_self, forall_const, ne_eq, not_false_eq_true, Nat.reduceEqDiff])))
    repeat' (first | apply And.intro | (refine enter_at _ (by ((try dsimp only [L1_ct34, L1_ct14, L1_ct36, L1_ct43, L1_ct33, ofSC, mulC, quoC, sclC, rootC, iv2C, ivoC, enc2, L1_ct13, L1_fn13, L1_lo13, v13, L1_ct23, L1_fn23, L1_lo23, v23, L1_ct35, L1_fn35, L1_lo35, v35, L1_ct24, L1_fn24, v24, go_sem, Option.bind, Option.map, List.append_nil, Nat.beq, List.cons_append, List.nil_append, List.append_eq, List.map_cons, List.map_nil, ite_self, reduceIte]); (try simp only [true_and, and_true, imp_self, implies_true, decide_eq_true_eq, decide_eq_false_iff_not, Nat.reduceAdd, Nat.reduceLeDiff, Bool.not_not, reduceCtorEq, false_imp_iff, Bool.not_eq_true', Bool.not_eq_false', Bool.false_eq_true, and_self, forall_const, ne_eq, not_false_eq_true, Nat.reduceEqDiff])); exact ⟨by decide, by decide, rfl, fun hh => absurd trivial hh⟩) ?_; (try simp only [M1, M2, M3]); ((try dsimp only [L1_ct34, L1_ct14, L1_ct36, L1_ct43, L1_ct33, ofSC, mulC, quoC, sclC, rootC, iv2C, ivoC, enc2, L1_ct13, L1_fn13, L1_lo13, v13, L1_ct23, L1_fn23, L1_lo23, v23, L1_ct35, L1_fn35, L1_lo35, v35, L1_ct24, L1_fn24, v24, go_sem, Option.bind, Option.map, List.append_nil, Nat.beq, List.cons_append, List.nil_append, List.append_eq, List.map_cons, List.map_nil, ite_self, reduceIte]); (try simp only [true_and, and_true, imp_self, implies_true, decide_eq_true_eq, decide_eq_false_iff_not, Nat.reduceAdd, Nat.reduceLeDiff, Bool.not_not, reduceCtorEq, false_imp_iff, Bool.not_eq_true', Bool.not_eq_false', Bool.false_eq_true, and_self, forall_const, ne_eq, not_false_eq_true, Nat.reduceEqDiff]))))
    all_goals first
      | exact fun hc => ⟨by decide, by decide, ans_cor (hN hc), fun hh => absurd trivial hh⟩
      | exact fun hc => ans_cor (hY hc)
  · exact h.1.elim
end Go.Proofs.Ytijadllhfgajlaa

/- Lengths: the speed of sound is an interval; the law, in plain Lean. -/
/- Lengths: the speed of sound is an interval; the law, in plain Lean. -/
set_option linter.all false
namespace Go.Proofs.Ytijadllhfgajlaa
open Go Go.Vx

theorem bisL_rng {t : Int → Bool} : ∀ (f : Nat) (a b : Int), a < b → a ≤ bisL f t a b ∧ bisL f t a b < b
  | 0, a, b, h => ⟨Int.le_refl _, h⟩
  | f + 1, a, b, h => by
    rw [bisL]
    split
    · split
      · have := bisL_rng (t := t) f (a + (b - a) / 2) b (by omega); omega
      · have := bisL_rng (t := t) f a (a + (b - a) / 2) (by omega); omega
    · exact ⟨Int.le_refl _, h⟩
theorem prod_rng (s : Int) (l : List (Int × Int)) (den : Int) : 0 ≤ (prodF s l den).1 ∧ (prodF s l den).1 ≤ 1000000000000 := by
  unfold prodF
  split
  · exact ⟨Int.le_refl _, by decide⟩
  · have := bisL_rng (t := isF (l ++ [(s, den)]) den) 64 0 1000000000001 (by decide)
    simp only; omega
theorem psp_rng (s : Int) (l : List (Int × Int)) (den : Int) : 0 ≤ (pspF s l den).1 ∧ (pspF s l den).1 ≤ (pspF s l den).2 ∧ (pspF s l den).2 ≤ 1000000000001 := by
  obtain ⟨h0, h1⟩ := prod_rng s l den
  unfold pspF
  split
  · exact ⟨h0, Int.le_refl _, by simp only; omega⟩
  · rw [IntWalk.i64_in _ (by omega)]
    simp only; omega
theorem speed_rng (t : Int) : 0 ≤ (speedF t).1.1 ∧ (speedF t).1.1 ≤ (speedF t).1.2 ∧ (speedF t).1.2 ≤ 1000000000001 := by
  unfold speedF
  split
  · exact psp_rng _ _ _
  · decide
theorem parts_rng (b : Bdy) : 0 ≤ partsF b ∧ partsF b ≤ 100000 := by unfold partsF; split <;> decide
theorem way_e0 (b : Bdy) (t : Int) : (wayF b t).2 = 0 := by
  obtain ⟨h0, h1, h2⟩ := speed_rng t
  obtain ⟨p0, p1⟩ := parts_rng b
  exact scl_e0 h0 h1 (by omega) p0 p1 (by decide) (by decide)
theorem way_is (b : Bdy) (t : Int) : 0 ≤ (wayF b t).1.1 ∧ (wayF b t).1.1 ≤ (wayF b t).1.2 ∧ (wayF b t).1.2 ≤ 1000000000001 * 500 := by
  obtain ⟨h0, h1, h2⟩ := speed_rng t
  obtain ⟨p0, p1⟩ := parts_rng b
  have e := (scl_1 p0 (way_e0 b t)).1
  have e : (wayF b t).1 = ((speedF t).1.1 * partsF b, (speedF t).1.2 * partsF b) := e
  rw [e]
  have hp : partsF b ≤ 500 := by unfold partsF; split <;> decide
  exact ⟨Int.mul_nonneg h0 p0, Int.mul_le_mul_of_nonneg_right h1 p0, mul_le' h2 hp (by omega) (by decide)⟩
theorem quo_e0 {a b : Iv} (h0 : 0 ≤ a.1) (h1 : a.1 ≤ a.2) (h2 : a.2 ≤ 4000000000000000) (k0 : 1 ≤ b.1) (k1 : b.1 ≤ b.2) (k2 : b.2 ≤ 4000000000000000) : (quoF a b).2 = 0 := by
  have q : ∀ x d : Int, 1 ≤ d → 0 ≤ x → x ≤ 400000000000000000 → rndB (x / d) = (x / d, true) ∧ rndB (-((-x) / d)) = (-((-x) / d), true) := fun x d hd hx hx1 => by
    have m1 : x / d ≤ x := Int.ediv_le_self _ hx
    have m0 : 0 ≤ x / d := Int.ediv_nonneg hx (by omega)
    have m2 : -x ≤ (-x) / d := by
      rw [Int.le_ediv_iff_mul_le (by omega)]
      have : x * 1 ≤ x * d := Int.mul_le_mul_of_nonneg_left hd hx
      rw [Int.neg_mul]; omega
    have m3 : (-x) / d ≤ 0 := Int.ediv_nonpos_of_nonpos_of_neg (by omega) (by omega)
    exact ⟨rndB_is (by omega) (by omega), rndB_is (by omega) (by omega)⟩
  rw [quoF, if_neg (by rw [okE2 (by omega) h1 (by omega) (by omega) k1 (by omega)]; decide), if_neg (by omega), if_neg (by omega)]
  unfold divPos rndF rndT
  rw [if_neg (show ¬ a.1 < 0 by omega), if_neg (show ¬ a.2 < 0 by omega)]
  simp only [if_true, Bool.false_eq_true, if_false]
  rw [(q a.1 b.2 (by omega) h0 (by omega)).1, (q a.2 b.1 k0 (by omega) (by omega)).2]
  rfl
end Go.Proofs.Ytijadllhfgajlaa

/- Lengths: the law LengthsBack, in plain Lean. -/
/- Lengths: the law LengthsBack, in plain Lean. -/
set_option linter.all false
namespace Go.Proofs.Ytijadllhfgajlaa
open Go Go.Vx

def withinF (a b : Iv) : Bool := decide (b.1 ≤ a.1) && decide (a.2 ≤ b.2)
theorem keep_0 {a b : Int} (h : keepE a b = 0) : a = 0 ∧ b = 0 := by
  unfold keepE at h
  split at h
  · exact ⟨‹_›, h⟩
  · exact absurd h ‹_›
theorem fits_0 {x : Iv} {e m : Int} (h : (fitsF x e m).2 = 0) : e = 0 ∧ 1 ≤ x.1 ∧ x.2 ≤ m ∧ (fitsF x e m).1 = x := by
  unfold fitsF at h ⊢
  split at h
  · cases h
  · rename_i hc
    rw [if_neg hc]
    exact ⟨by omega, by omega, by omega, rfl⟩
theorem fits_2 (x : Iv) (e m : Int) : (fitsF x e m).2 ≠ 2 := by
  unfold fitsF
  split <;> simp
theorem beg_0 {b : Bdy} {x : Iv} {least most t : Int} (h : begE b x least most t = 0) : chkB b = 0 ∧ (speedF t).2 = 0 ∧ least ≤ x.1 ∧ x.1 ≤ x.2 ∧ x.2 ≤ most := by
  unfold begE at h
  split at h
  · exact absurd h ‹_›
  · rename_i h1
    split at h
    · cases h
    · exact ⟨by omega, by omega, by omega, by omega, by omega⟩
theorem beg_is {b : Bdy} {x : Iv} {least most t : Int} (h1 : chkB b = 0) (h2 : (speedF t).2 = 0) (h3 : least ≤ x.1) (h4 : x.1 ≤ x.2) (h5 : x.2 ≤ most) : begE b x least most t = 0 := by
  unfold begE
  rw [if_neg (by omega), if_neg (by omega)]
theorem len_0 {b : Bdy} {x : Iv} {t : Int} (h : (lenF b x t).2 = 0) : begE b x 1000 20000000 t = 0 ∧ lenF b x t = fitsF (subF (quoF (wayF b t).1 x).1 (bothF b)).1 (keepE (keepE (wayF b t).2 (quoF (wayF b t).1 x).2) (subF (quoF (wayF b t).1 x).1 (bothF b)).2) 12000000 := by
  unfold lenF at h ⊢
  by_cases hb : begE b x 1000 20000000 t ≠ 0
  · rw [if_pos hb] at h; exact absurd h hb
  · rw [if_neg hb]; exact ⟨by simpa using hb, rfl⟩
theorem pit_0 {b : Bdy} {x : Iv} {t : Int} (h : (pitF b x t).2 = 0) : begE b x 1 12000000 t = 0 ∧ pitF b x t = fitsF (quoF (wayF b t).1 (addF x (bothF b)).1).1 (keepE (wayF b t).2 (quoF (wayF b t).1 (addF x (bothF b)).1).2) 200000000 := by
  unfold pitF at h ⊢
  by_cases hb : begE b x 1 12000000 t ≠ 0
  · rw [if_pos hb] at h; exact absurd h hb
  · rw [if_neg hb]; exact ⟨by simpa using hb, rfl⟩
theorem both_is {b : Bdy} (h : chkB b = 0) : 0 ≤ (bothF b).1 ∧ (bothF b).1 ≤ (bothF b).2 := by
  obtain ⟨_, ⟨b0, b1⟩, ⟨c0, c1⟩, ⟨d0, d1⟩, e0, e1⟩ := chkB_ok h
  obtain ⟨h1, h2, _⟩ := add_iv (mouthF b) (endF b)
  refine ⟨h2 ?_ ?_, h1⟩
  · unfold mouthF
    have hs : 0 ≤ (sclF (mulF (b.bottom, b.bottom) (b.bottom, b.bottom)).1 575 1000).1.1 := by
      unfold sclF
      split
      · exact Int.le_refl _
      · split
        · exact Int.le_refl _
        · rw [mul_e0 (by omega) (by omega) (by omega) (by omega)]
          have hb0 : 0 ≤ b.bottom * b.bottom := Int.mul_nonneg (by omega) (by omega)
          refine span_nn (by decide) (Int.mul_nonneg hb0 (by decide)) fun y hy => ?_
          rw [List.mem_singleton] at hy
          rw [hy]; exact Int.mul_nonneg hb0 (by decide)
    generalize (sclF (mulF (b.bottom, b.bottom) (b.bottom, b.bottom)).1 575 1000).1 = A at hs ⊢
    have ha : 0 ≤ (areaF' b).1 := by
      unfold areaF' rootF
      split
      · exact Int.le_refl _
      · split
        · exact Int.le_refl _
        · split
          · exact Int.le_refl _
          · exact Int.natCast_nonneg _
    generalize areaF' b = B at ha ⊢
    by_cases hq : (quoF A B).2 = 0
    · rcases Int.lt_or_le 0 B.1 with hB | hB
      · obtain ⟨e, l1, l2⟩ := quo_1 hs hB hq
        rw [e]
        exact Int.ediv_nonneg hs (by omega)
      · unfold quoF at hq ⊢
        split
        · exact Int.le_refl _
        · rename_i h0
          obtain ⟨l1, l2⟩ := leE2 (by simpa using h0)
          rw [if_pos (by omega)]
          exact Int.le_refl _
    · have : (quoF A B).1 = (0, 0) := by
        unfold quoF at hq ⊢
        split
        · rfl
        · rename_i h0
          rw [if_neg h0] at hq
          split
          · rfl
          · rename_i h1'
            rw [if_neg h1'] at hq
            have key : ∀ p q : Int × Bool, (spanR p q).2 ≠ 0 → (spanR p q).1 = (0, 0) := fun p q hpq => by
              unfold spanR at hpq ⊢
              split
              · rename_i hc; rw [if_pos hc] at hpq; exact absurd rfl hpq
              · rfl
            split
            · rename_i h2'; rw [if_pos h2'] at hq; exact key _ _ hq
            · rename_i h2'; rw [if_neg h2'] at hq; exact key _ _ hq
      rw [this]; exact Int.le_refl _
  · unfold endF
    split
    · exact Int.le_refl _
    · unfold sclF
      split
      · exact Int.le_refl _
      · split
        · exact Int.le_refl _
        · refine span_nn (by decide) (Int.mul_nonneg (by omega) (by decide)) fun y hy => ?_
          rw [List.mem_singleton] at hy
          rw [hy]; exact Int.mul_nonneg (by simp only; omega) (by decide)

/-- The frequency of a pipe that was made for a frequency. -/
theorem back_1 {b : Bdy} {x : Iv} {t : Int} (h : (lenF b x t).2 = 0) : (pitF b (lenF b x t).1 t).2 ≠ 2 ∧ ((pitF b (lenF b x t).1 t).2 = 0 → withinF x (pitF b (lenF b x t).1 t).1 = true) := by
  obtain ⟨hb, e⟩ := len_0 h
  obtain ⟨hc, hs, hx0, hx1, hx2⟩ := beg_0 hb
  rw [e] at h ⊢
  obtain ⟨he, l0, l1, e2⟩ := fits_0 h
  rw [e2]
  obtain ⟨he, hsub⟩ := keep_0 he
  obtain ⟨_, hquo⟩ := keep_0 he
  obtain ⟨w0, w1, w2⟩ := way_is b t
  obtain ⟨k0, k1⟩ := both_is hc
  obtain ⟨eq, _, _⟩ := quo_1 w0 (by omega : 0 < x.1) hquo
  obtain ⟨es, s1, s2⟩ := sub_1 hsub
  rw [es] at l0 l1 ⊢
  rw [eq] at l0 l1 s1 ⊢
  have hpit : ∀ y : Iv, begE b y 1 12000000 t = 0 → pitF b y t = fitsF (quoF (wayF b t).1 (addF y (bothF b)).1).1 (keepE (wayF b t).2 (quoF (wayF b t).1 (addF y (bothF b)).1).2) 200000000 := fun y hy => by
    unfold pitF; rw [if_neg (by rw [hy]; decide)]
  have hbeg : ∀ y : Iv, 1 ≤ y.1 → y.1 ≤ y.2 → y.2 ≤ 12000000 → begE b y 1 12000000 t = 0 := fun y g1 g2 g3 => beg_is hc hs g1 g2 g3
  generalize wayF b t = W at *
  obtain ⟨⟨W0, W1⟩, We⟩ := W
  generalize bothF b = B at *
  obtain ⟨B1, B2⟩ := B
  obtain ⟨x0, x1⟩ := x
  dsimp only at *
  have p1 := Int.ediv_mul_le W0 (by omega : x1 ≠ 0)
  have q1 := Int.ediv_mul_le (-W1) (by omega : x0 ≠ 0)
  obtain ⟨p, hp⟩ : ∃ p, p = W0 / x1 := ⟨_, rfl⟩
  obtain ⟨q, hq⟩ : ∃ q, q = -(-W1 / x0) := ⟨_, rfl⟩
  have q2 : W1 ≤ q * x0 := by rw [hq, Int.neg_mul]; omega
  rw [← hp] at p1 l0 s1 ⊢
  rw [← hq] at l1 s1 ⊢
  have hb' := hbeg (p - B2, q - B1) l0 (by simp only; omega) l1
  rw [hpit _ hb']
  refine ⟨fits_2 _ _ _, fun h0 => ?_⟩
  obtain ⟨he', f0, f1, e3⟩ := fits_0 h0
  rw [e3]
  obtain ⟨_, hq'⟩ := keep_0 he'
  by_cases ha : (addF (p - B2, q - B1) (B1, B2)).2 = 0
  · obtain ⟨ea, a1, a2⟩ := add_1 ha
    rw [ea] at hq' ⊢
    obtain ⟨er, _, _⟩ := quo_1 w0 (by simp only; omega) hq'
    rw [er]
    unfold withinF
    simp only
    have hD : 0 ≤ B2 - B1 := by omega
    have r1 : W0 / (q - B1 + B2) ≤ x0 := by
      refine Int.ediv_le_of_le_mul (by omega) ?_
      have : x0 * (q - B1 + B2) = q * x0 + x0 * (B2 - B1) := by rw [Int.mul_comm q, ← Int.mul_add]; congr 1; omega
      have h2 : 0 ≤ x0 * (B2 - B1) := Int.mul_nonneg (by omega) hD
      omega
    have r2 : -W1 / (p - B2 + B1) ≤ -x1 := by
      refine Int.ediv_le_of_le_mul (by omega) ?_
      have : -x1 * (p - B2 + B1) = -(p * x1) + x1 * (B2 - B1) := by rw [show p - B2 + B1 = p - (B2 - B1) by omega, Int.neg_mul, Int.mul_sub, Int.mul_comm x1 p]; omega
      have h2 : 0 ≤ x1 * (B2 - B1) := Int.mul_nonneg (by omega) hD
      omega
    rw [decide_eq_true r1, decide_eq_true (by omega : x1 ≤ -(-W1 / (p - B2 + B1)))]
    rfl
  · have e0 := (add_iv (p - B2, q - B1) (B1, B2)).2.2 ha
    rw [e0] at hq'
    have : (quoF (W0, W1) (0, 0)).2 ≠ 0 := by
      unfold quoF
      split
      · rename_i h9; exact h9
      · rw [if_pos (by simp)]; decide
    exact absurd hq' this

/-- The length for the frequency of a pipe. -/
theorem back_2 {b : Bdy} {x : Iv} {t : Int} (h : (pitF b x t).2 = 0) (hf0 : 1000 ≤ (pitF b x t).1.1) (hf1 : (pitF b x t).1.2 ≤ 20000000) : (lenF b (pitF b x t).1 t).2 ≠ 2 ∧ ((lenF b (pitF b x t).1 t).2 = 0 → withinF x (lenF b (pitF b x t).1 t).1 = true) := by
  obtain ⟨hb, e⟩ := pit_0 h
  obtain ⟨hc, hs, hx0, hx1, hx2⟩ := beg_0 hb
  rw [e] at h hf0 hf1 ⊢
  obtain ⟨he, l0, l1, e2⟩ := fits_0 h
  rw [e2] at hf0 hf1 ⊢
  obtain ⟨_, hquo⟩ := keep_0 he
  obtain ⟨w0, w1, w2⟩ := way_is b t
  obtain ⟨k0, k1⟩ := both_is hc
  have hlen : ∀ y : Iv, begE b y 1000 20000000 t = 0 → lenF b y t = fitsF (subF (quoF (wayF b t).1 y).1 (bothF b)).1 (keepE (keepE (wayF b t).2 (quoF (wayF b t).1 y).2) (subF (quoF (wayF b t).1 y).1 (bothF b)).2) 12000000 := fun y hy => by
    unfold lenF; rw [if_neg (by rw [hy]; decide)]
  have hbeg : ∀ y : Iv, 1000 ≤ y.1 → y.1 ≤ y.2 → y.2 ≤ 20000000 → begE b y 1000 20000000 t = 0 := fun y g1 g2 g3 => beg_is hc hs g1 g2 g3
  by_cases ha : (addF x (bothF b)).2 = 0
  · obtain ⟨ea, a1, a2⟩ := add_1 ha
    rw [ea] at hquo hf0 hf1 l0 l1 ⊢
    obtain ⟨eq, _, _⟩ := quo_1 w0 (by simp only; omega) hquo
    rw [eq] at hf0 hf1 l0 l1 ⊢
    generalize wayF b t = W at *
    obtain ⟨⟨W0, W1⟩, We⟩ := W
    generalize bothF b = B at *
    obtain ⟨B1, B2⟩ := B
    obtain ⟨x0, x1⟩ := x
    dsimp only at *
    have p1 := Int.ediv_mul_le W0 (by omega : x1 + B2 ≠ 0)
    have q1 := Int.ediv_mul_le (-W1) (by omega : x0 + B1 ≠ 0)
    obtain ⟨p, hp⟩ : ∃ p, p = W0 / (x1 + B2) := ⟨_, rfl⟩
    obtain ⟨q, hq⟩ : ∃ q, q = -(-W1 / (x0 + B1)) := ⟨_, rfl⟩
    have q2 : W1 ≤ q * (x0 + B1) := by rw [hq, Int.neg_mul]; omega
    rw [← hp] at p1 l0 hf0 ⊢
    rw [← hq] at l1 hf1 ⊢
    have hpq : p ≤ q := by
      refine Int.le_of_mul_le_mul_right (a := x0 + B1) ?_ (by omega)
      have : p * (x0 + B1) ≤ p * (x1 + B2) := Int.mul_le_mul_of_nonneg_left (by omega) (by omega)
      omega
    have hb' := hbeg (p, q) hf0 hpq hf1
    rw [hlen _ hb']
    refine ⟨fits_2 _ _ _, fun h0 => ?_⟩
    obtain ⟨he', f0, f1, e3⟩ := fits_0 h0
    rw [e3]
    obtain ⟨he', hsub⟩ := keep_0 he'
    obtain ⟨_, hq'⟩ := keep_0 he'
    obtain ⟨er, _, _⟩ := quo_1 (a := (W0, W1)) (b := (p, q)) w0 (show (0 : Int) < p by omega) hq'
    obtain ⟨es, _, _⟩ := sub_1 hsub
    rw [es, er]
    unfold withinF
    simp only
    have r1 : W0 / q ≤ x0 + B1 := by
      refine Int.ediv_le_of_le_mul (by omega) ?_
      rw [Int.mul_comm]; omega
    have r2 : -W1 / p ≤ -(x1 + B2) := by
      refine Int.ediv_le_of_le_mul (by omega) ?_
      rw [Int.neg_mul, Int.mul_comm (x1 + B2)]; omega
    rw [decide_eq_true (by omega : W0 / q - B2 ≤ x0), decide_eq_true (by omega : x1 ≤ -(-W1 / p) - B1)]
    rfl
  · have e0 := (add_iv x (bothF b)).2.2 ha
    rw [e0] at hquo
    have : (quoF (wayF b t).1 (0, 0)).2 ≠ 0 := by
      unfold quoF
      split
      · rename_i h9; exact h9
      · rw [if_pos (by simp)]; decide
    exact absurd hquo this
end Go.Proofs.Ytijadllhfgajlaa

/- Lengths, walked: begin. -/
/- Lengths, walked: begin. -/
set_option linter.all false
namespace Go.Proofs.Ytijadllhfgajlaa
open Go Go.Vx
set_option maxRecDepth 100000
set_option maxHeartbeats 4000000

def v11 : VF := { ntmps := 75, res := [.tmp 10, .cell 11 true 2, .tmp 12], body :=
 (.seq (.region [u1 5 .box [.tm 0],
 u1 6 .box [.tm 1],
 u1 10 .mov [.cn (.val (.pointer none))],
 u1 11 (.alloc [(.int .i64 0), (.int .i64 0)]) [],
 u1 12 .mov [.cn (.int .i64 0)]])
 (.seq (.seq (.region [u1 19 (.load true 5) [.tm 5],
 u1 20 (.call 20) [.tm 19],
 u1 13 .mov [.tm 20]])
 (.seq (.region [u1 21 .mov [.tm 13],
 u1 22 (.cmp .neq) [.tm 21, .cn (.int .i64 0)]])
 (.cond (.tm 22) (.seq (.region [u1 23 (.build [(.int .i64 0), (.int .i64 0)] []) [],
 u1 24 .mov [.tm 13],
 u1 10 .mov [.cn (.val (.pointer none))],
 u0 (.store 2) [.tm 11, .tm 23],
 u1 12 .mov [.tm 24]])
 .ret)
  .skip)))
 (.seq (.region [u1 26 .mov [.tm 4],
 u1 27 (.call 21) [.tm 26],
 u1 25 .mov [.tm 27],
 u1 28 (.ext 0) [.tm 25],
 u1 29 (.ext 1) [.tm 25],
 u1 14 (.alloc [(.int .i64 0), (.int .i64 0)]) [],
 u0 (.store 2) [.tm 14, .tm 28],
 u1 12 .mov [.tm 29]])
 (.seq (.seq (.region [u1 30 .mov [.tm 12],
 u1 31 (.cmp .neq) [.tm 30, .cn (.int .i64 0)],
 u1 32 .mov [.tm 31],
 u2 33 32 false (.fieldAddr 0) [.tm 6],
 u2 34 32 false (.load false 1) [.tm 33],
 u2 35 32 false .mov [.tm 2],
 u2 36 32 false (.cmp .lss) [.tm 34, .tm 35],
 u1 37 .or [.tm 32, .tm 36],
 u1 38 .mov [.tm 37],
 u2 39 38 false (.fieldAddr 0) [.tm 6],
 u2 40 38 false (.load false 1) [.tm 39],
 u2 41 38 false (.fieldAddr 1) [.tm 6],
 u2 42 38 false (.load false 1) [.tm 41],
 u2 43 38 false (.cmp .gtr) [.tm 40, .tm 42],
 u1 44 .or [.tm 38, .tm 43],
 u1 45 .mov [.tm 44],
 u2 46 45 false (.fieldAddr 1) [.tm 6],
 u2 47 45 false (.load false 1) [.tm 46],
 u2 48 45 false .mov [.tm 3],
 u2 49 45 false (.cmp .gtr) [.tm 47, .tm 48],
 u1 50 .or [.tm 45, .tm 49]])
 (.cond (.tm 50) (.seq (.region [u1 51 (.build [(.int .i64 0), (.int .i64 0)] []) [],
 u1 10 .mov [.cn (.val (.pointer none))],
 u0 (.store 2) [.tm 11, .tm 51],
 u1 12 .mov [.cn (.int .i64 2)]])
 .ret)
  .skip))
 (.seq (.region [u1 52 (.build [(.int .i64 0), (.int .i64 0), (.int .i64 0), (.int .i64 0)] [(1, 1), (2, 1), (3, 1)]) [.cn (.int .i64 500), .cn (.int .i64 250), .cn (.int .i64 500)],
 u1 15 (.allocArr 4 1 [(.int .i64 0), (.int .i64 0), (.int .i64 0), (.int .i64 0)]) [],
 u0 (.store 4) [.tm 15, .tm 52]])
 (.seq (.region [u1 54 (.load true 5) [.tm 5],
 u1 55 (.call 22) [.tm 54],
 u1 53 .mov [.tm 55],
 u1 56 (.ext 0) [.tm 53],
 u1 57 (.ext 1) [.tm 53],
 u1 16 (.alloc [(.int .i64 0), (.int .i64 0)]) [],
 u1 17 (.alloc [(.int .i64 0), (.int .i64 0)]) [],
 u0 (.store 2) [.tm 16, .tm 56],
 u0 (.store 2) [.tm 17, .tm 57]])
 (.seq (.region [u1 58 (.load true 2) [.tm 16],
 u1 59 (.build [(.int .i64 0), (.int .i64 0), (.int .i64 0)] [(0, 2)]) [.tm 58],
 u1 60 .box [.tm 59],
 u1 18 .mov [.tm 60]])
 (.seq (.drawT [] (.ops [w1 61 (.load true 2) [.tm 14]] (.ops [w1 62 (.build [(.int .i64 0), (.int .i64 0), (.int .i64 0)] [(0, 2)]) [.tm 61]] (.ops [w1 64 (.fieldAddr 0) [.tm 5]] (.ops [w1 65 (.load false 1) [.tm 64]] (.ops [w1 66 (.idxArr 4 1) [.tm 15, .tm 65]] (.ops [w1 67 (.load false 1) [.tm 66]] (.br (.ops [w1 63 .box [.tm 62]] (.br (.ops [w1 68 (.call 23) [.tm 63, .tm 67, .cn (.int .i64 1)]] (.br (.ops [w1 69 .mov [.tm 18]] (.ops [w1 70 (.load true 2) [.tm 17]] (.ops [w1 71 (.call 13) [.tm 69, .cn (.fn (.func 16) [] []), .tm 70]] (.ops [w1 72 .nilCheck [.tm 71]] (.ops [w1 73 (.fieldAddr 0) [.tm 72]] (.ops [w1 74 (.load true 2) [.tm 73]] (.ops [w1 10 .mov [.tm 68]] (.ops [w0 (.store 2) [.tm 11, .tm 74]] (.ops [w1 12 .mov [.cn (.int .i64 0)]] .leaf)))))))))
 (.ops [w1 70 (.load true 2) [.tm 17]] (.ops [w1 69 .mov [.tm 18]] (.ops [w1 71 (.call 13) [.tm 69, .cn (.fn (.func 16) [] []), .tm 70]] (.ops [w1 72 .nilCheck [.tm 71]] (.ops [w1 73 (.fieldAddr 0) [.tm 72]] (.ops [w1 74 (.load true 2) [.tm 73]] (.ops [w1 10 .mov [.tm 68]] (.ops [w0 (.store 2) [.tm 11, .tm 74]] (.ops [w1 12 .mov [.cn (.int .i64 0)]] .leaf)))))))))))
 (.br (.ops [w1 69 .mov [.tm 18]] (.br (.ops [w1 68 (.call 23) [.tm 63, .tm 67, .cn (.int .i64 1)]] (.ops [w1 70 (.load true 2) [.tm 17]] (.ops [w1 71 (.call 13) [.tm 69, .cn (.fn (.func 16) [] []), .tm 70]] (.ops [w1 72 .nilCheck [.tm 71]] (.ops [w1 73 (.fieldAddr 0) [.tm 72]] (.ops [w1 74 (.load true 2) [.tm 73]] (.ops [w1 10 .mov [.tm 68]] (.ops [w0 (.store 2) [.tm 11, .tm 74]] (.ops [w1 12 .mov [.cn (.int .i64 0)]] .leaf)))))))))
 (.ops [w1 70 (.load true 2) [.tm 17]] (.ops [w1 68 (.call 23) [.tm 63, .tm 67, .cn (.int .i64 1)]] (.ops [w1 71 (.call 13) [.tm 69, .cn (.fn (.func 16) [] []), .tm 70]] (.ops [w1 72 .nilCheck [.tm 71]] (.ops [w1 73 (.fieldAddr 0) [.tm 72]] (.ops [w1 74 (.load true 2) [.tm 73]] (.ops [w1 10 .mov [.tm 68]] (.ops [w0 (.store 2) [.tm 11, .tm 74]] (.ops [w1 12 .mov [.cn (.int .i64 0)]] .leaf)))))))))))
 (.ops [w1 70 (.load true 2) [.tm 17]] (.br (.ops [w1 68 (.call 23) [.tm 63, .tm 67, .cn (.int .i64 1)]] (.ops [w1 69 .mov [.tm 18]] (.ops [w1 71 (.call 13) [.tm 69, .cn (.fn (.func 16) [] []), .tm 70]] (.ops [w1 72 .nilCheck [.tm 71]] (.ops [w1 73 (.fieldAddr 0) [.tm 72]] (.ops [w1 74 (.load true 2) [.tm 73]] (.ops [w1 10 .mov [.tm 68]] (.ops [w0 (.store 2) [.tm 11, .tm 74]] (.ops [w1 12 .mov [.cn (.int .i64 0)]] .leaf)))))))))
 (.ops [w1 69 .mov [.tm 18]] (.ops [w1 68 (.call 23) [.tm 63, .tm 67, .cn (.int .i64 1)]] (.ops [w1 71 (.call 13) [.tm 69, .cn (.fn (.func 16) [] []), .tm 70]] (.ops [w1 72 .nilCheck [.tm 71]] (.ops [w1 73 (.fieldAddr 0) [.tm 72]] (.ops [w1 74 (.load true 2) [.tm 73]] (.ops [w1 10 .mov [.tm 68]] (.ops [w0 (.store 2) [.tm 11, .tm 74]] (.ops [w1 12 .mov [.cn (.int .i64 0)]] .leaf))))))))))))))
 (.br (.ops [w1 69 .mov [.tm 18]] (.br (.ops [w1 63 .box [.tm 62]] (.br (.ops [w1 68 (.call 23) [.tm 63, .tm 67, .cn (.int .i64 1)]] (.ops [w1 70 (.load true 2) [.tm 17]] (.ops [w1 71 (.call 13) [.tm 69, .cn (.fn (.func 16) [] []), .tm 70]] (.ops [w1 72 .nilCheck [.tm 71]] (.ops [w1 73 (.fieldAddr 0) [.tm 72]] (.ops [w1 74 (.load true 2) [.tm 73]] (.ops [w1 10 .mov [.tm 68]] (.ops [w0 (.store 2) [.tm 11, .tm 74]] (.ops [w1 12 .mov [.cn (.int .i64 0)]] .leaf)))))))))
 (.ops [w1 70 (.load true 2) [.tm 17]] (.ops [w1 68 (.call 23) [.tm 63, .tm 67, .cn (.int .i64 1)]] (.ops [w1 71 (.call 13) [.tm 69, .cn (.fn (.func 16) [] []), .tm 70]] (.ops [w1 72 .nilCheck [.tm 71]] (.ops [w1 73 (.fieldAddr 0) [.tm 72]] (.ops [w1 74 (.load true 2) [.tm 73]] (.ops [w1 10 .mov [.tm 68]] (.ops [w0 (.store 2) [.tm 11, .tm 74]] (.ops [w1 12 .mov [.cn (.int .i64 0)]] .leaf)))))))))))
 (.ops [w1 70 (.load true 2) [.tm 17]] (.ops [w1 63 .box [.tm 62]] (.ops [w1 68 (.call 23) [.tm 63, .tm 67, .cn (.int .i64 1)]] (.ops [w1 71 (.call 13) [.tm 69, .cn (.fn (.func 16) [] []), .tm 70]] (.ops [w1 72 .nilCheck [.tm 71]] (.ops [w1 73 (.fieldAddr 0) [.tm 72]] (.ops [w1 74 (.load true 2) [.tm 73]] (.ops [w1 10 .mov [.tm 68]] (.ops [w0 (.store 2) [.tm 11, .tm 74]] (.ops [w1 12 .mov [.cn (.int .i64 0)]] .leaf))))))))))))
 (.ops [w1 70 (.load true 2) [.tm 17]] (.br (.ops [w1 63 .box [.tm 62]] (.br (.ops [w1 68 (.call 23) [.tm 63, .tm 67, .cn (.int .i64 1)]] (.ops [w1 69 .mov [.tm 18]] (.ops [w1 71 (.call 13) [.tm 69, .cn (.fn (.func 16) [] []), .tm 70]] (.ops [w1 72 .nilCheck [.tm 71]] (.ops [w1 73 (.fieldAddr 0) [.tm 72]] (.ops [w1 74 (.load true 2) [.tm 73]] (.ops [w1 10 .mov [.tm 68]] (.ops [w0 (.store 2) [.tm 11, .tm 74]] (.ops [w1 12 .mov [.cn (.int .i64 0)]] .leaf)))))))))
 (.ops [w1 69 .mov [.tm 18]] (.ops [w1 68 (.call 23) [.tm 63, .tm 67, .cn (.int .i64 1)]] (.ops [w1 71 (.call 13) [.tm 69, .cn (.fn (.func 16) [] []), .tm 70]] (.ops [w1 72 .nilCheck [.tm 71]] (.ops [w1 73 (.fieldAddr 0) [.tm 72]] (.ops [w1 74 (.load true 2) [.tm 73]] (.ops [w1 10 .mov [.tm 68]] (.ops [w0 (.store 2) [.tm 11, .tm 74]] (.ops [w1 12 .mov [.cn (.int .i64 0)]] .leaf)))))))))))
 (.ops [w1 69 .mov [.tm 18]] (.ops [w1 63 .box [.tm 62]] (.ops [w1 68 (.call 23) [.tm 63, .tm 67, .cn (.int .i64 1)]] (.ops [w1 71 (.call 13) [.tm 69, .cn (.fn (.func 16) [] []), .tm 70]] (.ops [w1 72 .nilCheck [.tm 71]] (.ops [w1 73 (.fieldAddr 0) [.tm 72]] (.ops [w1 74 (.load true 2) [.tm 73]] (.ops [w1 10 .mov [.tm 68]] (.ops [w0 (.store 2) [.tm 11, .tm 74]] (.ops [w1 12 .mov [.cn (.int .i64 0)]] .leaf)))))))))))))))))))))
 .ret)))))))) }
theorem v11_is : vfunc Try.prog Try.f11 = some v11 := by kernel_rfl
def v12 : VF := { ntmps := 34, res := [.cell 4 true 2, .tmp 5], body :=
 (.seq (.region [u1 4 (.alloc [(.int .i64 0), (.int .i64 0)]) [],
 u1 5 .mov [.cn (.int .i64 0)]])
 (.seq (.seq (.region [u1 6 .mov [.tm 0],
 u1 7 .nilCheck [.tm 6],
 u1 8 (.fieldAddr 2) [.tm 7],
 u1 9 (.fieldAddr 0) [.tm 8],
 u1 10 (.load false 1) [.tm 9],
 u1 11 (.cmp .neq) [.tm 10, .cn (.int .i64 0)],
 u1 12 .mov [.tm 11],
 u2 13 12 false .mov [.tm 0],
 u2 14 12 false .nilCheck [.tm 13],
 u2 15 12 false (.fieldAddr 0) [.tm 14],
 u2 16 12 false (.fieldAddr 0) [.tm 15],
 u2 17 12 false (.load false 1) [.tm 16],
 u2 18 12 false (.cmp .lss) [.tm 17, .cn (.int .i64 1)],
 u1 19 .or [.tm 12, .tm 18],
 u1 20 .mov [.tm 19],
 u2 21 20 false .mov [.tm 0],
 u2 22 20 false .nilCheck [.tm 21],
 u2 23 20 false (.fieldAddr 0) [.tm 22],
 u2 24 20 false (.fieldAddr 1) [.tm 23],
 u2 25 20 false (.load false 1) [.tm 24],
 u2 26 20 false .mov [.tm 1],
 u2 27 20 false (.cmp .gtr) [.tm 25, .tm 26],
 u1 28 .or [.tm 20, .tm 27]])
 (.cond (.tm 28) (.seq (.region [u1 29 (.build [(.int .i64 0), (.int .i64 0)] []) [],
 u0 (.store 2) [.tm 4, .tm 29],
 u1 5 .mov [.cn (.int .i64 7)]])
 .ret)
  .skip))
 (.seq (.region [u1 30 .mov [.tm 0],
 u1 31 .nilCheck [.tm 30],
 u1 32 (.fieldAddr 0) [.tm 31],
 u1 33 (.load true 2) [.tm 32],
 u0 (.store 2) [.tm 4, .tm 33],
 u1 5 .mov [.cn (.int .i64 0)]])
 .ret))) }
theorem v12_is : vfunc Try.prog Try.f12 = some v12 := by kernel_rfl


/-- What the beginning leaves behind, on the good path. -/
def begH (B : Bdy) (x : Iv) (t : Int) : List HO := [.box [.int .i64 B.kind, .int .i64 B.bottom, .int .i64 B.top, .int .i64 B.mouth, .int .i64 B.cut], .box [.int .i64 x.1, .int .i64 x.2], .box [.int .i64 (bothF B).1, .int .i64 (bothF B).2], .box [.int .i64 (speedF t).1.1, .int .i64 (speedF t).1.2], .own false 1 4 (chunk 1 [.int .i64 0, .int .i64 500, .int .i64 250, .int .i64 500]), .box [.int .i64 (mouthF B).1, .int .i64 (mouthF B).2], .box [.int .i64 (endF B).1, .int .i64 (endF B).2], .box [.int .i64 (bothF B).1, .int .i64 (bothF B).2, .int .i64 (addF (mouthF B) (endF B)).2], .box [.int .i64 (wayF B t).1.1, .int .i64 (wayF B t).1.2, .int .i64 (wayF B t).2], .box [.int .i64 (wayF B t).1.1, .int .i64 (wayF B t).1.2], .box [.int .i64 (endF B).1, .int .i64 (endF B).2], .box [.int .i64 (bothF B).1, .int .i64 (bothF B).2]]
/-- The beginning: on the good path the way lies in a block of its own. -/
def begC : Ctr := { alias := false, of := fun l => match l with
  | [.agg [.int .i64 a, .int .i64 b, .int .i64 c, .int .i64 d, .int .i64 e], .agg [.int .i64 x0, .int .i64 x1], .int .i64 least, .int .i64 most, .int .i64 t] =>
    if chkB ⟨a, b, c, d, e⟩ = 0 then
      if (speedF t).2 ≠ 0 ∨ x0 < least ∨ x1 < x0 ∨ most < x1 then
        .fin (.tup [.val (.pointer none), .agg [.int .i64 0, .int .i64 0], .int .i64 2]) [.box [.int .i64 a, .int .i64 b, .int .i64 c, .int .i64 d, .int .i64 e], .box [.int .i64 x0, .int .i64 x1], .box [.int .i64 0, .int .i64 0], .box [.int .i64 (speedF t).1.1, .int .i64 (speedF t).1.2]]
      else .fin (.tup [.ptr 8 0, .agg [.int .i64 (bothF ⟨a, b, c, d, e⟩).1, .int .i64 (bothF ⟨a, b, c, d, e⟩).2], .int .i64 0]) (begH ⟨a, b, c, d, e⟩ (x0, x1) t)
    else .fin (.tup [.val (.pointer none), .agg [.int .i64 0, .int .i64 0], .int .i64 (chkB ⟨a, b, c, d, e⟩)]) [.box [.int .i64 a, .int .i64 b, .int .i64 c, .int .i64 d, .int .i64 e], .box [.int .i64 x0, .int .i64 x1], .box [.int .i64 0, .int .i64 0]]
  | _ => noC }
theorem beg_fresh (B : Bdy) (x : Iv) (t : Int) : freshS (.tup [.ptr 8 0, .agg [.int .i64 (bothF B).1, .int .i64 (bothF B).2], .int .i64 0]) ∧ freshH (begH B x t) := by
  refine ⟨by simp [freshS, freshL], ?_⟩
  simp only [begH, freshH, freshL, freshS, true_and, and_true]
  intro k hk
  match k, hk with
  | 0, _ => exact ⟨trivial, trivial⟩
  | 1, _ => exact ⟨trivial, trivial⟩
  | 2, _ => exact ⟨trivial, trivial⟩
  | 3, _ => exact ⟨trivial, trivial⟩
def L3 : Env := { ct := fun n => match n with | 20 => some chkBC | 21 => some speedC | 22 => some corC | 16 => some addC | 36 => some sclC | _ => none, fn := fun n => match n with | 13 => some v13 | 23 => some v23 | 24 => some v24 | _ => none, meth := fun _ _ => none, lo := fun n => match n with | 13 => true | 23 => true | _ => false }
theorem L3_ct20 : L3.ct 20 = some chkBC := rfl
theorem L3_ct21 : L3.ct 21 = some speedC := rfl
theorem L3_ct22 : L3.ct 22 = some corC := rfl
theorem L3_ct16 : L3.ct 16 = some addC := rfl
theorem L3_ct36 : L3.ct 36 = some sclC := rfl
theorem L3_ct13 : L3.ct 13 = none := rfl
theorem L3_fn13 : L3.fn 13 = some v13 := rfl
theorem L3_ct23 : L3.ct 23 = none := rfl
theorem L3_fn23 : L3.fn 23 = some v23 := rfl
theorem L3_ct24 : L3.ct 24 = none := rfl
theorem L3_fn24 : L3.fn 24 = some v24 := rfl
theorem L3_ok : EnvOk Try.prog L3 := by
  refine ⟨fun f c h => ?_, fun f vf h => ?_, (fun _ _ _ h => by cases h), by kernel_rfl, fun f h => ?_⟩
  · simp only [L3] at h
    split at h
    · cases h; exact ⟨chkB_c, Try.f20, Try.func20, by kernel_rfl, by kernel_rfl⟩
    · cases h; exact ⟨speed_c, Try.f21, Try.func21, by kernel_rfl, by kernel_rfl⟩
    · cases h; exact ⟨cor_c, Try.f22, Try.func22, by kernel_rfl, by kernel_rfl⟩
    · cases h; exact ⟨add_ok, Try.f16, Try.func16, by kernel_rfl, by kernel_rfl⟩
    · cases h; exact ⟨scl_ok, Try.f36, Try.func36, by kernel_rfl, by kernel_rfl⟩
    · cases h
  · simp only [L3] at h
    split at h
    · cases h; exact ⟨Try.f13, Try.func13, v13_is, Try.f13, Try.func13, by kernel_rfl, by kernel_rfl⟩
    · cases h; exact ⟨Try.f23, Try.func23, v23_is, Try.f23, Try.func23, by kernel_rfl, by kernel_rfl⟩
    · cases h; exact ⟨Try.f24, Try.func24, v24_is, Try.f24, Try.func24, by kernel_rfl, by kernel_rfl⟩
    · cases h
  · simp only [L3] at h
    split at h
    · kernel_rfl
    · kernel_rfl
    · cases h
theorem L3_lo13 : L3.lo 13 = true := rfl
theorem L3_lo23 : L3.lo 23 = true := rfl

theorem beg_c : begC.ok Try.prog 11 := by
  refine contract_own Try.func11 v11_is L3_ok 600 begC fun args k h => ?_
  simp only [begC] at h
  split at h
  · rename_i a b c d e x0 x1 least most t
    refine ⟨[.agg [.int .i64 a, .int .i64 b, .int .i64 c, .int .i64 d, .int .i64 e], .agg [.int .i64 x0, .int .i64 x1], .int .i64 least, .int .i64 most, .int .i64 t], by simp [leL, le], ?_⟩
    dsimp only [v11, L3_ct20, L3_ct21, L3_ct22, L3_ct16, L3_ct36, chkBC, speedC, corC, sclC, addC, iv2C, ivoC, enc2, L3_ct13, L3_fn13, L3_lo13, v13, L3_ct23, L3_fn23, L3_lo23, v23, L3_ct24, L3_fn24, v24, go_sem, Option.bind, Option.map, List.append_nil, Nat.beq, List.cons_append, List.nil_append, List.append_eq, List.map_cons, List.map_nil, ite_self, reduceIte]
    simp only [true_and, and_true, imp_self, implies_true, decide_eq_true_eq, decide_eq_false_iff_not, Nat.reduceAdd, Nat.reduceLeDiff, Bool.not_not, reduceCtorEq, false_imp_iff, Bool.not_eq_true', Bool.not_eq_false', Bool.false_eq_true, and_self, forall_const, ne_eq, not_false_eq_true, Nat.reduceEqDiff]
    refine ⟨fun hc => ?_, fun hc => ⟨by decide, by decide, fun hg => ?_, fun hg => ⟨by decide, hc, by decide, by decide, ?_⟩⟩⟩
    · rw [if_neg hc] at h
      exact ⟨h, by simp [freshS, freshL], by simp [freshH, freshL, freshS]⟩
    · rw [if_pos hc, if_pos (by simpa [or_assoc] using hg)] at h
      exact ⟨h, by simp [freshS, freshL], by simp [freshH, freshL, freshS]⟩
    · have hgood : k (.tup [.ptr 8 0, .agg [.int .i64 (bothF ⟨a, b, c, d, e⟩).1, .int .i64 (bothF ⟨a, b, c, d, e⟩).2], .int .i64 0]) (begH ⟨a, b, c, d, e⟩ (x0, x1) t) := by
        rw [if_pos hc, if_neg (fun hh => by
          simp only [Bool.or_eq_false_iff, Bool.not_eq_false', decide_eq_true_eq, decide_eq_false_iff_not] at hg
          omega)] at h
        exact h
      have hfr := beg_fresh ⟨a, b, c, d, e⟩ (x0, x1) t
      have ha : a = 1 ∨ a = 2 ∨ a = 3 := by
        obtain ⟨⟨h1, h2⟩, _⟩ := chkB_ok hc
        dsimp only at h1 h2; omega
      rcases ha with rfl | rfl | rfl
      · refine ⟨by decide, by decide, ?_, ?_⟩
        all_goals ((try dsimp only [Int.reduceToNat, Nat.reduceMul, Int.toNat_zero, Int.toNat_one, L3_ct20, L3_ct21, L3_ct22, L3_ct16, L3_ct36, chkBC, speedC, corC, sclC, addC, iv2C, ivoC, enc2, L3_ct13, L3_fn13, L3_lo13, v13, L3_ct23, L3_fn23, L3_lo23, v23, L3_ct24, L3_fn24, v24, go_sem, Option.bind, Option.map, List.append_nil, Nat.beq, List.cons_append, List.nil_append, List.append_eq, List.map_cons, List.map_nil, ite_self, reduceIte]); (try simp only [true_and, and_true, imp_self, implies_true, decide_eq_true_eq, decide_eq_false_iff_not, Nat.reduceAdd, Nat.reduceLeDiff, Bool.not_not, reduceCtorEq, false_imp_iff, Bool.not_eq_true', Bool.not_eq_false', Bool.false_eq_true, and_self, forall_const, ne_eq, not_false_eq_true, Nat.reduceEqDiff]))
        all_goals repeat' (first | exact ⟨hgood, hfr⟩ | apply And.intro | (refine enter_at _ (by ((try dsimp only [Int.reduceToNat, Nat.reduceMul, Int.toNat_zero, Int.toNat_one, L3_ct20, L3_ct21, L3_ct22, L3_ct16, L3_ct36, chkBC, speedC, corC, sclC, addC, iv2C, ivoC, enc2, L3_ct13, L3_fn13, L3_lo13, v13, L3_ct23, L3_fn23, L3_lo23, v23, L3_ct24, L3_fn24, v24, go_sem, Option.bind, Option.map, List.append_nil, Nat.beq, List.cons_append, List.nil_append, List.append_eq, List.map_cons, List.map_nil, ite_self, reduceIte]); (try simp only [true_and, and_true, imp_self, implies_true, decide_eq_true_eq, decide_eq_false_iff_not, Nat.reduceAdd, Nat.reduceLeDiff, Bool.not_not, reduceCtorEq, false_imp_iff, Bool.not_eq_true', Bool.not_eq_false', Bool.false_eq_true, and_self, forall_const, ne_eq, not_false_eq_true, Nat.reduceEqDiff])); exact ⟨by decide, by decide, rfl, fun hh => absurd trivial hh⟩) ?_; ((try dsimp only [Int.reduceToNat, Nat.reduceMul, Int.toNat_zero, Int.toNat_one, L3_ct20, L3_ct21, L3_ct22, L3_ct16, L3_ct36, chkBC, speedC, corC, sclC, addC, iv2C, ivoC, enc2, L3_ct13, L3_fn13, L3_lo13, v13, L3_ct23, L3_fn23, L3_lo23, v23, L3_ct24, L3_fn24, v24, go_sem, Option.bind, Option.map, List.append_nil, Nat.beq, List.cons_append, List.nil_append, List.append_eq, List.map_cons, List.map_nil, ite_self, reduceIte]); (try simp only [true_and, and_true, imp_self, implies_true, decide_eq_true_eq, decide_eq_false_iff_not, Nat.reduceAdd, Nat.reduceLeDiff, Bool.not_not, reduceCtorEq, false_imp_iff, Bool.not_eq_true', Bool.not_eq_false', Bool.false_eq_true, and_self, forall_const, ne_eq, not_false_eq_true, Nat.reduceEqDiff]))))
      · refine ⟨by decide, by decide, ?_, ?_⟩
        all_goals ((try dsimp only [Int.reduceToNat, Nat.reduceMul, Int.toNat_zero, Int.toNat_one, L3_ct20, L3_ct21, L3_ct22, L3_ct16, L3_ct36, chkBC, speedC, corC, sclC, addC, iv2C, ivoC, enc2, L3_ct13, L3_fn13, L3_lo13, v13, L3_ct23, L3_fn23, L3_lo23, v23, L3_ct24, L3_fn24, v24, go_sem, Option.bind, Option.map, List.append_nil, Nat.beq, List.cons_append, List.nil_append, List.append_eq, List.map_cons, List.map_nil, ite_self, reduceIte]); (try simp only [true_and, and_true, imp_self, implies_true, decide_eq_true_eq, decide_eq_false_iff_not, Nat.reduceAdd, Nat.reduceLeDiff, Bool.not_not, reduceCtorEq, false_imp_iff, Bool.not_eq_true', Bool.not_eq_false', Bool.false_eq_true, and_self, forall_const, ne_eq, not_false_eq_true, Nat.reduceEqDiff]))
        all_goals repeat' (first | exact ⟨hgood, hfr⟩ | apply And.intro | (refine enter_at _ (by ((try dsimp only [Int.reduceToNat, Nat.reduceMul, Int.toNat_zero, Int.toNat_one, L3_ct20, L3_ct21, L3_ct22, L3_ct16, L3_ct36, chkBC, speedC, corC, sclC, addC, iv2C, ivoC, enc2, L3_ct13, L3_fn13, L3_lo13, v13, L3_ct23, L3_fn23, L3_lo23, v23, L3_ct24, L3_fn24, v24, go_sem, Option.bind, Option.map, List.append_nil, Nat.beq, List.cons_append, List.nil_append, List.append_eq, List.map_cons, List.map_nil, ite_self, reduceIte]); (try simp only [true_and, and_true, imp_self, implies_true, decide_eq_true_eq, decide_eq_false_iff_not, Nat.reduceAdd, Nat.reduceLeDiff, Bool.not_not, reduceCtorEq, false_imp_iff, Bool.not_eq_true', Bool.not_eq_false', Bool.false_eq_true, and_self, forall_const, ne_eq, not_false_eq_true, Nat.reduceEqDiff])); exact ⟨by decide, by decide, rfl, fun hh => absurd trivial hh⟩) ?_; ((try dsimp only [Int.reduceToNat, Nat.reduceMul, Int.toNat_zero, Int.toNat_one, L3_ct20, L3_ct21, L3_ct22, L3_ct16, L3_ct36, chkBC, speedC, corC, sclC, addC, iv2C, ivoC, enc2, L3_ct13, L3_fn13, L3_lo13, v13, L3_ct23, L3_fn23, L3_lo23, v23, L3_ct24, L3_fn24, v24, go_sem, Option.bind, Option.map, List.append_nil, Nat.beq, List.cons_append, List.nil_append, List.append_eq, List.map_cons, List.map_nil, ite_self, reduceIte]); (try simp only [true_and, and_true, imp_self, implies_true, decide_eq_true_eq, decide_eq_false_iff_not, Nat.reduceAdd, Nat.reduceLeDiff, Bool.not_not, reduceCtorEq, false_imp_iff, Bool.not_eq_true', Bool.not_eq_false', Bool.false_eq_true, and_self, forall_const, ne_eq, not_false_eq_true, Nat.reduceEqDiff]))))
      · refine ⟨by decide, by decide, ?_, ?_⟩
        all_goals ((try dsimp only [Int.reduceToNat, Nat.reduceMul, Int.toNat_zero, Int.toNat_one, L3_ct20, L3_ct21, L3_ct22, L3_ct16, L3_ct36, chkBC, speedC, corC, sclC, addC, iv2C, ivoC, enc2, L3_ct13, L3_fn13, L3_lo13, v13, L3_ct23, L3_fn23, L3_lo23, v23, L3_ct24, L3_fn24, v24, go_sem, Option.bind, Option.map, List.append_nil, Nat.beq, List.cons_append, List.nil_append, List.append_eq, List.map_cons, List.map_nil, ite_self, reduceIte]); (try simp only [true_and, and_true, imp_self, implies_true, decide_eq_true_eq, decide_eq_false_iff_not, Nat.reduceAdd, Nat.reduceLeDiff, Bool.not_not, reduceCtorEq, false_imp_iff, Bool.not_eq_true', Bool.not_eq_false', Bool.false_eq_true, and_self, forall_const, ne_eq, not_false_eq_true, Nat.reduceEqDiff]))
        all_goals repeat' (first | exact ⟨hgood, hfr⟩ | apply And.intro | (refine enter_at _ (by ((try dsimp only [Int.reduceToNat, Nat.reduceMul, Int.toNat_zero, Int.toNat_one, L3_ct20, L3_ct21, L3_ct22, L3_ct16, L3_ct36, chkBC, speedC, corC, sclC, addC, iv2C, ivoC, enc2, L3_ct13, L3_fn13, L3_lo13, v13, L3_ct23, L3_fn23, L3_lo23, v23, L3_ct24, L3_fn24, v24, go_sem, Option.bind, Option.map, List.append_nil, Nat.beq, List.cons_append, List.nil_append, List.append_eq, List.map_cons, List.map_nil, ite_self, reduceIte]); (try simp only [true_and, and_true, imp_self, implies_true, decide_eq_true_eq, decide_eq_false_iff_not, Nat.reduceAdd, Nat.reduceLeDiff, Bool.not_not, reduceCtorEq, false_imp_iff, Bool.not_eq_true', Bool.not_eq_false', Bool.false_eq_true, and_self, forall_const, ne_eq, not_false_eq_true, Nat.reduceEqDiff])); exact ⟨by decide, by decide, rfl, fun hh => absurd trivial hh⟩) ?_; ((try dsimp only [Int.reduceToNat, Nat.reduceMul, Int.toNat_zero, Int.toNat_one, L3_ct20, L3_ct21, L3_ct22, L3_ct16, L3_ct36, chkBC, speedC, corC, sclC, addC, iv2C, ivoC, enc2, L3_ct13, L3_fn13, L3_lo13, v13, L3_ct23, L3_fn23, L3_lo23, v23, L3_ct24, L3_fn24, v24, go_sem, Option.bind, Option.map, List.append_nil, Nat.beq, List.cons_append, List.nil_append, List.append_eq, List.map_cons, List.map_nil, ite_self, reduceIte]); (try simp only [true_and, and_true, imp_self, implies_true, decide_eq_true_eq, decide_eq_false_iff_not, Nat.reduceAdd, Nat.reduceLeDiff, Bool.not_not, reduceCtorEq, false_imp_iff, Bool.not_eq_true', Bool.not_eq_false', Bool.false_eq_true, and_self, forall_const, ne_eq, not_false_eq_true, Nat.reduceEqDiff]))))
  · exact h.1.elim
end Go.Proofs.Ytijadllhfgajlaa

/- Lengths, walked: Length, Pitch. -/
/- Lengths, walked: Length, Pitch. -/
set_option linter.all false
namespace Go.Proofs.Ytijadllhfgajlaa
open Go Go.Vx
set_option maxRecDepth 100000
set_option maxHeartbeats 4000000

def v5 : VF := { ntmps := 31, res := [.cell 6 true 2, .tmp 7], body :=
 (.seq (.region [u1 3 .box [.tm 0],
 u1 4 .box [.tm 1],
 u1 6 (.alloc [(.int .i64 0), (.int .i64 0)]) [],
 u1 7 .mov [.cn (.int .i64 0)]])
 (.seq (.region [u1 12 (.load true 5) [.tm 3],
 u1 13 (.load true 2) [.tm 4],
 u1 14 .mov [.tm 2],
 u1 15 (.call 11) [.tm 12, .tm 13, .cn (.int .i64 1000), .cn (.int .i64 20000000), .tm 14],
 u1 11 .mov [.tm 15],
 u1 16 (.ext 0) [.tm 11],
 u1 17 (.ext 1) [.tm 11],
 u1 18 (.ext 2) [.tm 11],
 u1 9 (.alloc [(.int .i64 0), (.int .i64 0)]) [],
 u1 8 .mov [.tm 16],
 u0 (.store 2) [.tm 9, .tm 17],
 u1 10 .mov [.tm 18]])
 (.seq (.seq (.region [u1 19 .mov [.tm 10],
 u1 20 (.cmp .neq) [.tm 19, .cn (.int .i64 0)]])
 (.cond (.tm 20) (.seq (.region [u1 21 (.build [(.int .i64 0), (.int .i64 0)] []) [],
 u1 22 .mov [.tm 10],
 u0 (.store 2) [.tm 6, .tm 21],
 u1 7 .mov [.tm 22]])
 .ret)
  .skip))
 (.seq (.drawT [] (.ops [w1 23 .mov [.tm 8]] (.ops [w1 24 (.load true 2) [.tm 4]] (.br (.ops [w1 25 (.call 13) [.tm 23, .cn (.fn (.func 14) [] []), .tm 24]] (.ops [w1 26 (.load true 2) [.tm 9]] (.ops [w1 27 (.call 13) [.tm 25, .cn (.fn (.func 15) [] []), .tm 26]] (.ops [w1 28 (.call 12) [.tm 27, .cn (.int .i64 12000000)]] (.ops [w1 29 (.ext 0) [.tm 28]] (.ops [w1 30 (.ext 1) [.tm 28]] (.ops [w0 (.store 2) [.tm 6, .tm 29]] (.ops [w1 7 .mov [.tm 30]] .leaf))))))))
 (.ops [w1 26 (.load true 2) [.tm 9]] (.ops [w1 25 (.call 13) [.tm 23, .cn (.fn (.func 14) [] []), .tm 24]] (.ops [w1 27 (.call 13) [.tm 25, .cn (.fn (.func 15) [] []), .tm 26]] (.ops [w1 28 (.call 12) [.tm 27, .cn (.int .i64 12000000)]] (.ops [w1 29 (.ext 0) [.tm 28]] (.ops [w1 30 (.ext 1) [.tm 28]] (.ops [w0 (.store 2) [.tm 6, .tm 29]] (.ops [w1 7 .mov [.tm 30]] .leaf))))))))))))
 .ret)))) }
theorem v5_is : vfunc Try.prog Try.f5 = some v5 := by kernel_rfl
def v6 : VF := { ntmps := 38, res := [.cell 6 true 2, .tmp 7], body :=
 (.seq (.region [u1 3 .box [.tm 0],
 u1 4 .box [.tm 1],
 u1 6 (.alloc [(.int .i64 0), (.int .i64 0)]) [],
 u1 7 .mov [.cn (.int .i64 0)]])
 (.seq (.region [u1 13 (.load true 5) [.tm 3],
 u1 14 (.load true 2) [.tm 4],
 u1 15 .mov [.tm 2],
 u1 16 (.call 11) [.tm 13, .tm 14, .cn (.int .i64 1), .cn (.int .i64 12000000), .tm 15],
 u1 12 .mov [.tm 16],
 u1 17 (.ext 0) [.tm 12],
 u1 18 (.ext 1) [.tm 12],
 u1 19 (.ext 2) [.tm 12],
 u1 9 (.alloc [(.int .i64 0), (.int .i64 0)]) [],
 u1 8 .mov [.tm 17],
 u0 (.store 2) [.tm 9, .tm 18],
 u1 10 .mov [.tm 19]])
 (.seq (.seq (.region [u1 20 .mov [.tm 10],
 u1 21 (.cmp .neq) [.tm 20, .cn (.int .i64 0)]])
 (.cond (.tm 21) (.seq (.region [u1 22 (.build [(.int .i64 0), (.int .i64 0)] []) [],
 u1 23 .mov [.tm 10],
 u0 (.store 2) [.tm 6, .tm 22],
 u1 7 .mov [.tm 23]])
 .ret)
  .skip))
 (.seq (.region [u1 24 (.load true 2) [.tm 4],
 u1 25 (.build [(.int .i64 0), (.int .i64 0), (.int .i64 0)] [(0, 2)]) [.tm 24],
 u1 26 .box [.tm 25],
 u1 27 (.load true 2) [.tm 9],
 u1 28 (.call 13) [.tm 26, .cn (.fn (.func 16) [] []), .tm 27],
 u1 11 .mov [.tm 28]])
 (.seq (.region [u1 29 .mov [.tm 8],
 u1 30 .mov [.tm 11],
 u1 31 .nilCheck [.tm 30],
 u1 32 (.fieldAddr 0) [.tm 31],
 u1 33 (.load true 2) [.tm 32],
 u1 34 (.call 13) [.tm 29, .cn (.fn (.func 14) [] []), .tm 33],
 u1 35 (.call 12) [.tm 34, .cn (.int .i64 200000000)],
 u1 36 (.ext 0) [.tm 35],
 u1 37 (.ext 1) [.tm 35],
 u0 (.store 2) [.tm 6, .tm 36],
 u1 7 .mov [.tm 37]])
 .ret))))) }
theorem v6_is : vfunc Try.prog Try.f6 = some v6 := by kernel_rfl


def lenC : Ctr := { alias := false, of := fun l => match l with
  | [.agg [.int .i64 a, .int .i64 b, .int .i64 c, .int .i64 d, .int .i64 e], .agg [.int .i64 x0, .int .i64 x1], .int .i64 t] =>
    .fin (.tup [.agg (enc2 (lenF ⟨a, b, c, d, e⟩ (x0, x1) t).1), .int .i64 (lenF ⟨a, b, c, d, e⟩ (x0, x1) t).2]) []
  | _ => noC }
def pitC : Ctr := { alias := false, of := fun l => match l with
  | [.agg [.int .i64 a, .int .i64 b, .int .i64 c, .int .i64 d, .int .i64 e], .agg [.int .i64 x0, .int .i64 x1], .int .i64 t] =>
    .fin (.tup [.agg (enc2 (pitF ⟨a, b, c, d, e⟩ (x0, x1) t).1), .int .i64 (pitF ⟨a, b, c, d, e⟩ (x0, x1) t).2]) []
  | _ => noC }
theorem ans_len {k : SV → List HO → Prop} {al : Bool} {hp : List HO} {p : Iv} {e : Int} (h : k (.tup [.agg (enc2 p), .int .i64 e]) []) : answers al k (.tup [.agg [.int .i64 p.1, .int .i64 p.2], .int .i64 e]) hp :=
  ans_le (show k _ [] from h) (le_self (.tup [.agg [.int .i64 p.1, .int .i64 p.2], .int .i64 e]) ⟨⟨trivial, trivial, trivial⟩, trivial, trivial⟩) (fun _ => by simp [enc2, freshS, freshL])
def fitsC : Ctr := { alias := false, of := fun l => match l with
  | [.xp _ [.int .i64 lo, .int .i64 hi, .int .i64 e], .int .i64 most] => .fin (.tup [.agg (enc2 (fitsF (lo, hi) e most).1), .int .i64 (fitsF (lo, hi) e most).2]) []
  | _ => noC }
def L40 : Env := { ct := fun _ => none, fn := fun _ => none, meth := fun _ _ => none }
theorem L40_ok : EnvOk Try.prog L40 := by
  refine ⟨fun f c h => ?_, fun f vf h => ?_, (fun _ _ _ h => by cases h), by kernel_rfl, (fun _ h => by cases h)⟩
  · cases h
  · cases h

theorem fits_c : fitsC.ok Try.prog 12 := by
  refine contract Try.func12 v12_is L40_ok 200 fitsC fun args k h => ?_
  simp only [fitsC] at h
  split at h
  · rename_i tt lo hi e most
    refine ⟨[.xp tt [.int .i64 lo, .int .i64 hi, .int .i64 e], .int .i64 most], ⟨⟨id, leXL_self _⟩, ⟨rfl, rfl⟩, trivial⟩, ?_⟩
    dsimp only [v12, go_sem, Option.bind, Option.map, List.append_nil, Nat.beq, List.cons_append, List.nil_append, List.append_eq, List.map_cons, List.map_nil, ite_self, reduceIte]
    simp only [true_and, and_true, imp_self, implies_true, decide_eq_true_eq, decide_eq_false_iff_not, Nat.reduceAdd, Nat.reduceLeDiff, Bool.not_not, reduceCtorEq, false_imp_iff, Bool.not_eq_true', Bool.not_eq_false', Bool.false_eq_true, and_self, forall_const, ne_eq, not_false_eq_true, Nat.reduceEqDiff]
    refine ⟨fun hc => ?_, fun hc => ?_⟩
    · rw [show fitsF (lo, hi) e most = ((0, 0), 7) by
        rw [fitsF, if_pos]
        simp only [Bool.or_eq_true, Bool.not_eq_true', decide_eq_true_eq, decide_eq_false_iff_not] at hc
        simp only; omega] at h
      exact ans_len (p := (0, 0)) h
    · rw [show fitsF (lo, hi) e most = ((lo, hi), 0) by
        rw [fitsF, if_neg]
        simp only [Bool.or_eq_false_iff, Bool.not_eq_false', decide_eq_true_eq, decide_eq_false_iff_not] at hc
        simp only; omega] at h
      exact ans_len (p := (lo, hi)) h
  · exact h.1.elim
def L4 : Env := { ct := fun n => match n with | 11 => some begC | 14 => some quoC | 15 => some subC | 16 => some addC | 12 => some fitsC | _ => none, fn := fun n => match n with | 13 => some v13 | 24 => some v24 | _ => none, meth := fun _ _ => none, lo := fun n => match n with | 13 => true | _ => false }
theorem L4_ct11 : L4.ct 11 = some begC := rfl
theorem L4_ct14 : L4.ct 14 = some quoC := rfl
theorem L4_ct15 : L4.ct 15 = some subC := rfl
theorem L4_ct16 : L4.ct 16 = some addC := rfl
theorem L4_ct12 : L4.ct 12 = some fitsC := rfl
theorem L4_ct13 : L4.ct 13 = none := rfl
theorem L4_fn13 : L4.fn 13 = some v13 := rfl
theorem L4_ct24 : L4.ct 24 = none := rfl
theorem L4_fn24 : L4.fn 24 = some v24 := rfl
theorem L4_ok : EnvOk Try.prog L4 := by
  refine ⟨fun f c h => ?_, fun f vf h => ?_, (fun _ _ _ h => by cases h), by kernel_rfl, fun f h => ?_⟩
  · simp only [L4] at h
    split at h
    · cases h; exact ⟨beg_c, Try.f11, Try.func11, by kernel_rfl, by kernel_rfl⟩
    · cases h; exact ⟨quo_ok, Try.f14, Try.func14, by kernel_rfl, by kernel_rfl⟩
    · cases h; exact ⟨sub_ok, Try.f15, Try.func15, by kernel_rfl, by kernel_rfl⟩
    · cases h; exact ⟨add_ok, Try.f16, Try.func16, by kernel_rfl, by kernel_rfl⟩
    · cases h; exact ⟨fits_c, Try.f12, Try.func12, by kernel_rfl, by kernel_rfl⟩
    · cases h
  · simp only [L4] at h
    split at h
    · cases h; exact ⟨Try.f13, Try.func13, v13_is, Try.f13, Try.func13, by kernel_rfl, by kernel_rfl⟩
    · cases h; exact ⟨Try.f24, Try.func24, v24_is, Try.f24, Try.func24, by kernel_rfl, by kernel_rfl⟩
    · cases h
  · simp only [L4] at h
    split at h
    · kernel_rfl
    · cases h
theorem L4_lo13 : L4.lo 13 = true := rfl

theorem len_c : lenC.ok Try.prog 5 := by
  refine contract Try.func5 v5_is L4_ok 600 lenC fun args k h => ?_
  simp only [lenC] at h
  split at h
  · rename_i a b c d e x0 x1 t
    refine ⟨[.agg [.int .i64 a, .int .i64 b, .int .i64 c, .int .i64 d, .int .i64 e], .agg [.int .i64 x0, .int .i64 x1], .int .i64 t], by simp [leL, le], ?_⟩
    by_cases hc : chkB ⟨a, b, c, d, e⟩ = 0
    · by_cases hg : (speedF t).2 ≠ 0 ∨ x0 < 1000 ∨ x1 < x0 ∨ 20000000 < x1
      · dsimp only [v5, begC, L4_ct11, L4_ct14, L4_ct15, L4_ct16, quoC, subC, addC, iv2C, ivoC, enc2, L4_ct13, L4_fn13, L4_lo13, v13, L4_ct24, L4_fn24, v24, L4_ct12, fitsC, go_sem, Option.bind, Option.map, List.append_nil, Nat.beq, List.cons_append, List.nil_append, List.append_eq, List.map_cons, List.map_nil, ite_self, reduceIte]
        simp only [if_pos hc, if_pos hg]
        ((try dsimp only [L4_ct11, L4_ct14, L4_ct15, L4_ct16, quoC, subC, addC, iv2C, ivoC, enc2, L4_ct13, L4_fn13, L4_lo13, v13, L4_ct24, L4_fn24, v24, L4_ct12, fitsC, go_sem, Option.bind, Option.map, List.append_nil, Nat.beq, List.cons_append, List.nil_append, List.append_eq, List.map_cons, List.map_nil, ite_self, reduceIte]); (try simp only [true_and, and_true, imp_self, implies_true, decide_eq_true_eq, decide_eq_false_iff_not, Nat.reduceAdd, Nat.reduceLeDiff, Bool.not_not, reduceCtorEq, false_imp_iff, Bool.not_eq_true', Bool.not_eq_false', Bool.false_eq_true, and_self, forall_const, ne_eq, not_false_eq_true, Nat.reduceEqDiff]))
        refine ⟨by decide, by decide, by decide, fun _ => ?_, fun hh => absurd hh (by decide)⟩
        rw [show lenF ⟨a, b, c, d, e⟩ (x0, x1) t = ((0, 0), 2) by rw [lenF, show begE ⟨a, b, c, d, e⟩ (x0, x1) 1000 20000000 t = 2 by rw [begE, if_neg (fun hh => hh hc), if_pos hg], if_pos (by decide)]] at h
        exact ans_len (p := (0, 0)) h
      · have hB : begE ⟨a, b, c, d, e⟩ (x0, x1) 1000 20000000 t = 0 := by rw [begE, if_neg (fun hh => hh hc), if_neg hg]
        have MW : (wayF ⟨a, b, c, d, e⟩ t).2 = 0 := way_e0 _ _
        have MQ : (quoF ((wayF ⟨a, b, c, d, e⟩ t).1.1, (wayF ⟨a, b, c, d, e⟩ t).1.2) (x0, x1)).2 = 0 := by
          obtain ⟨w0, w1, w2⟩ := way_is ⟨a, b, c, d, e⟩ t
          exact quo_e0 w0 w1 (by omega) (by simp only; omega) (by simp only; omega) (by simp only; omega)
        have hL : lenF ⟨a, b, c, d, e⟩ (x0, x1) t = fitsF (subF (quoF (wayF ⟨a, b, c, d, e⟩ t).1 (x0, x1)).1 (bothF ⟨a, b, c, d, e⟩)).1 (subF (quoF (wayF ⟨a, b, c, d, e⟩ t).1 (x0, x1)).1 (bothF ⟨a, b, c, d, e⟩)).2 12000000 := by
          rw [lenF, hB, if_neg (by decide), MW, show (quoF (wayF ⟨a, b, c, d, e⟩ t).1 (x0, x1)).2 = 0 from MQ]
          rfl
        rw [hL] at h
        dsimp only [v5, begC, L4_ct11, L4_ct14, L4_ct15, L4_ct16, quoC, subC, addC, iv2C, ivoC, enc2, L4_ct13, L4_fn13, L4_lo13, v13, L4_ct24, L4_fn24, v24, L4_ct12, fitsC, go_sem, Option.bind, Option.map, List.append_nil, Nat.beq, List.cons_append, List.nil_append, List.append_eq, List.map_cons, List.map_nil, ite_self, reduceIte]
        simp only [if_pos hc, if_neg hg, begH, true_and, and_true, imp_self, implies_true, decide_eq_true_eq, decide_eq_false_iff_not, Nat.reduceAdd, Nat.reduceLeDiff, Bool.not_not, reduceCtorEq, false_imp_iff, Bool.not_eq_true', Bool.not_eq_false', Bool.false_eq_true, and_self, forall_const, ne_eq, not_false_eq_true, Nat.reduceEqDiff]
        simp only [MW]
        ((try dsimp only [L4_ct11, L4_ct14, L4_ct15, L4_ct16, quoC, subC, addC, iv2C, ivoC, enc2, L4_ct13, L4_fn13, L4_lo13, v13, L4_ct24, L4_fn24, v24, L4_ct12, fitsC, go_sem, Option.bind, Option.map, List.append_nil, Nat.beq, List.cons_append, List.nil_append, List.append_eq, List.map_cons, List.map_nil, ite_self, reduceIte]); (try simp only [true_and, and_true, imp_self, implies_true, decide_eq_true_eq, decide_eq_false_iff_not, Nat.reduceAdd, Nat.reduceLeDiff, Bool.not_not, reduceCtorEq, false_imp_iff, Bool.not_eq_true', Bool.not_eq_false', Bool.false_eq_true, and_self, forall_const, ne_eq, not_false_eq_true, Nat.reduceEqDiff]))
        refine ⟨by decide, by decide, by decide, fun hh => absurd trivial hh, ?_⟩
        repeat' (first | exact ans_len h | (first | apply And.intro | (refine enter_at _ (by ((try dsimp only [L4_ct11, L4_ct14, L4_ct15, L4_ct16, quoC, subC, addC, iv2C, ivoC, enc2, L4_ct13, L4_fn13, L4_lo13, v13, L4_ct24, L4_fn24, v24, L4_ct12, fitsC, go_sem, Option.bind, Option.map, List.append_nil, Nat.beq, List.cons_append, List.nil_append, List.append_eq, List.map_cons, List.map_nil, ite_self, reduceIte]); (try simp only [true_and, and_true, imp_self, implies_true, decide_eq_true_eq, decide_eq_false_iff_not, Nat.reduceAdd, Nat.reduceLeDiff, Bool.not_not, reduceCtorEq, false_imp_iff, Bool.not_eq_true', Bool.not_eq_false', Bool.false_eq_true, and_self, forall_const, ne_eq, not_false_eq_true, Nat.reduceEqDiff])); exact ⟨by decide, by decide, rfl, fun hh => absurd trivial hh⟩) ?_; (try simp only [MW, MQ]); ((try dsimp only [L4_ct11, L4_ct14, L4_ct15, L4_ct16, quoC, subC, addC, iv2C, ivoC, enc2, L4_ct13, L4_fn13, L4_lo13, v13, L4_ct24, L4_fn24, v24, L4_ct12, fitsC, go_sem, Option.bind, Option.map, List.append_nil, Nat.beq, List.cons_append, List.nil_append, List.append_eq, List.map_cons, List.map_nil, ite_self, reduceIte]); (try simp only [true_and, and_true, imp_self, implies_true, decide_eq_true_eq, decide_eq_false_iff_not, Nat.reduceAdd, Nat.reduceLeDiff, Bool.not_not, reduceCtorEq, false_imp_iff, Bool.not_eq_true', Bool.not_eq_false', Bool.false_eq_true, and_self, forall_const, ne_eq, not_false_eq_true, Nat.reduceEqDiff])))) | decide)
    · dsimp only [v5, begC, L4_ct11, L4_ct14, L4_ct15, L4_ct16, quoC, subC, addC, iv2C, ivoC, enc2, L4_ct13, L4_fn13, L4_lo13, v13, L4_ct24, L4_fn24, v24, L4_ct12, fitsC, go_sem, Option.bind, Option.map, List.append_nil, Nat.beq, List.cons_append, List.nil_append, List.append_eq, List.map_cons, List.map_nil, ite_self, reduceIte]
      simp only [if_neg hc]
      ((try dsimp only [L4_ct11, L4_ct14, L4_ct15, L4_ct16, quoC, subC, addC, iv2C, ivoC, enc2, L4_ct13, L4_fn13, L4_lo13, v13, L4_ct24, L4_fn24, v24, L4_ct12, fitsC, go_sem, Option.bind, Option.map, List.append_nil, Nat.beq, List.cons_append, List.nil_append, List.append_eq, List.map_cons, List.map_nil, ite_self, reduceIte]); (try simp only [true_and, and_true, imp_self, implies_true, decide_eq_true_eq, decide_eq_false_iff_not, Nat.reduceAdd, Nat.reduceLeDiff, Bool.not_not, reduceCtorEq, false_imp_iff, Bool.not_eq_true', Bool.not_eq_false', Bool.false_eq_true, and_self, forall_const, ne_eq, not_false_eq_true, Nat.reduceEqDiff]))
      refine ⟨by decide, by decide, by decide, fun _ => ?_, fun hh => absurd hh hc⟩
      rw [show lenF ⟨a, b, c, d, e⟩ (x0, x1) t = ((0, 0), chkB ⟨a, b, c, d, e⟩) by rw [lenF, show begE ⟨a, b, c, d, e⟩ (x0, x1) 1000 20000000 t = chkB ⟨a, b, c, d, e⟩ by rw [begE, if_pos hc], if_pos hc]] at h
      exact ans_len (p := (0, 0)) h
  · exact h.1.elim
theorem pit_c : pitC.ok Try.prog 6 := by
  refine contract Try.func6 v6_is L4_ok 600 pitC fun args k h => ?_
  simp only [pitC] at h
  split at h
  · rename_i a b c d e x0 x1 t
    refine ⟨[.agg [.int .i64 a, .int .i64 b, .int .i64 c, .int .i64 d, .int .i64 e], .agg [.int .i64 x0, .int .i64 x1], .int .i64 t], by simp [leL, le], ?_⟩
    by_cases hc : chkB ⟨a, b, c, d, e⟩ = 0
    · by_cases hg : (speedF t).2 ≠ 0 ∨ x0 < 1 ∨ x1 < x0 ∨ 12000000 < x1
      · dsimp only [v6, begC, L4_ct11, L4_ct14, L4_ct15, L4_ct16, quoC, subC, addC, iv2C, ivoC, enc2, L4_ct13, L4_fn13, L4_lo13, v13, L4_ct24, L4_fn24, v24, L4_ct12, fitsC, go_sem, Option.bind, Option.map, List.append_nil, Nat.beq, List.cons_append, List.nil_append, List.append_eq, List.map_cons, List.map_nil, ite_self, reduceIte]
        simp only [if_pos hc, if_pos hg]
        ((try dsimp only [L4_ct11, L4_ct14, L4_ct15, L4_ct16, quoC, subC, addC, iv2C, ivoC, enc2, L4_ct13, L4_fn13, L4_lo13, v13, L4_ct24, L4_fn24, v24, L4_ct12, fitsC, go_sem, Option.bind, Option.map, List.append_nil, Nat.beq, List.cons_append, List.nil_append, List.append_eq, List.map_cons, List.map_nil, ite_self, reduceIte]); (try simp only [true_and, and_true, imp_self, implies_true, decide_eq_true_eq, decide_eq_false_iff_not, Nat.reduceAdd, Nat.reduceLeDiff, Bool.not_not, reduceCtorEq, false_imp_iff, Bool.not_eq_true', Bool.not_eq_false', Bool.false_eq_true, and_self, forall_const, ne_eq, not_false_eq_true, Nat.reduceEqDiff]))
        refine ⟨by decide, by decide, by decide, fun _ => ?_, fun hh => absurd hh (by decide)⟩
        rw [show pitF ⟨a, b, c, d, e⟩ (x0, x1) t = ((0, 0), 2) by rw [pitF, show begE ⟨a, b, c, d, e⟩ (x0, x1) 1 12000000 t = 2 by rw [begE, if_neg (fun hh => hh hc), if_pos hg], if_pos (by decide)]] at h
        exact ans_len (p := (0, 0)) h
      · have hB : begE ⟨a, b, c, d, e⟩ (x0, x1) 1 12000000 t = 0 := by rw [begE, if_neg (fun hh => hh hc), if_neg hg]
        have MW : (wayF ⟨a, b, c, d, e⟩ t).2 = 0 := way_e0 _ _
        have hL : pitF ⟨a, b, c, d, e⟩ (x0, x1) t = fitsF (quoF (wayF ⟨a, b, c, d, e⟩ t).1 (addF (x0, x1) (bothF ⟨a, b, c, d, e⟩)).1).1 (quoF (wayF ⟨a, b, c, d, e⟩ t).1 (addF (x0, x1) (bothF ⟨a, b, c, d, e⟩)).1).2 200000000 := by
          rw [pitF, hB, if_neg (by decide), MW]
          rfl
        rw [hL] at h
        dsimp only [v6, begC, L4_ct11, L4_ct14, L4_ct15, L4_ct16, quoC, subC, addC, iv2C, ivoC, enc2, L4_ct13, L4_fn13, L4_lo13, v13, L4_ct24, L4_fn24, v24, L4_ct12, fitsC, go_sem, Option.bind, Option.map, List.append_nil, Nat.beq, List.cons_append, List.nil_append, List.append_eq, List.map_cons, List.map_nil, ite_self, reduceIte]
        simp only [if_pos hc, if_neg hg, begH, true_and, and_true, imp_self, implies_true, decide_eq_true_eq, decide_eq_false_iff_not, Nat.reduceAdd, Nat.reduceLeDiff, Bool.not_not, reduceCtorEq, false_imp_iff, Bool.not_eq_true', Bool.not_eq_false', Bool.false_eq_true, and_self, forall_const, ne_eq, not_false_eq_true, Nat.reduceEqDiff]
        simp only [MW]
        ((try dsimp only [L4_ct11, L4_ct14, L4_ct15, L4_ct16, quoC, subC, addC, iv2C, ivoC, enc2, L4_ct13, L4_fn13, L4_lo13, v13, L4_ct24, L4_fn24, v24, L4_ct12, fitsC, go_sem, Option.bind, Option.map, List.append_nil, Nat.beq, List.cons_append, List.nil_append, List.append_eq, List.map_cons, List.map_nil, ite_self, reduceIte]); (try simp only [true_and, and_true, imp_self, implies_true, decide_eq_true_eq, decide_eq_false_iff_not, Nat.reduceAdd, Nat.reduceLeDiff, Bool.not_not, reduceCtorEq, false_imp_iff, Bool.not_eq_true', Bool.not_eq_false', Bool.false_eq_true, and_self, forall_const, ne_eq, not_false_eq_true, Nat.reduceEqDiff]))
        refine ⟨by decide, by decide, by decide, fun hh => absurd trivial hh, ?_⟩
        repeat' (first | exact ans_len h | exact fun hh => absurd trivial hh | (first | apply And.intro | (refine enter_at _ (by ((try dsimp only [L4_ct11, L4_ct14, L4_ct15, L4_ct16, quoC, subC, addC, iv2C, ivoC, enc2, L4_ct13, L4_fn13, L4_lo13, v13, L4_ct24, L4_fn24, v24, L4_ct12, fitsC, go_sem, Option.bind, Option.map, List.append_nil, Nat.beq, List.cons_append, List.nil_append, List.append_eq, List.map_cons, List.map_nil, ite_self, reduceIte]); (try simp only [true_and, and_true, imp_self, implies_true, decide_eq_true_eq, decide_eq_false_iff_not, Nat.reduceAdd, Nat.reduceLeDiff, Bool.not_not, reduceCtorEq, false_imp_iff, Bool.not_eq_true', Bool.not_eq_false', Bool.false_eq_true, and_self, forall_const, ne_eq, not_false_eq_true, Nat.reduceEqDiff])); exact ⟨by decide, by decide, rfl, fun hh => absurd trivial hh⟩) ?_; (try simp only [MW]); ((try dsimp only [L4_ct11, L4_ct14, L4_ct15, L4_ct16, quoC, subC, addC, iv2C, ivoC, enc2, L4_ct13, L4_fn13, L4_lo13, v13, L4_ct24, L4_fn24, v24, L4_ct12, fitsC, go_sem, Option.bind, Option.map, List.append_nil, Nat.beq, List.cons_append, List.nil_append, List.append_eq, List.map_cons, List.map_nil, ite_self, reduceIte]); (try simp only [true_and, and_true, imp_self, implies_true, decide_eq_true_eq, decide_eq_false_iff_not, Nat.reduceAdd, Nat.reduceLeDiff, Bool.not_not, reduceCtorEq, false_imp_iff, Bool.not_eq_true', Bool.not_eq_false', Bool.false_eq_true, and_self, forall_const, ne_eq, not_false_eq_true, Nat.reduceEqDiff])))) | decide)
    · dsimp only [v6, begC, L4_ct11, L4_ct14, L4_ct15, L4_ct16, quoC, subC, addC, iv2C, ivoC, enc2, L4_ct13, L4_fn13, L4_lo13, v13, L4_ct24, L4_fn24, v24, L4_ct12, fitsC, go_sem, Option.bind, Option.map, List.append_nil, Nat.beq, List.cons_append, List.nil_append, List.append_eq, List.map_cons, List.map_nil, ite_self, reduceIte]
      simp only [if_neg hc]
      ((try dsimp only [L4_ct11, L4_ct14, L4_ct15, L4_ct16, quoC, subC, addC, iv2C, ivoC, enc2, L4_ct13, L4_fn13, L4_lo13, v13, L4_ct24, L4_fn24, v24, L4_ct12, fitsC, go_sem, Option.bind, Option.map, List.append_nil, Nat.beq, List.cons_append, List.nil_append, List.append_eq, List.map_cons, List.map_nil, ite_self, reduceIte]); (try simp only [true_and, and_true, imp_self, implies_true, decide_eq_true_eq, decide_eq_false_iff_not, Nat.reduceAdd, Nat.reduceLeDiff, Bool.not_not, reduceCtorEq, false_imp_iff, Bool.not_eq_true', Bool.not_eq_false', Bool.false_eq_true, and_self, forall_const, ne_eq, not_false_eq_true, Nat.reduceEqDiff]))
      refine ⟨by decide, by decide, by decide, fun _ => ?_, fun hh => absurd hh hc⟩
      rw [show pitF ⟨a, b, c, d, e⟩ (x0, x1) t = ((0, 0), chkB ⟨a, b, c, d, e⟩) by rw [pitF, show begE ⟨a, b, c, d, e⟩ (x0, x1) 1 12000000 t = chkB ⟨a, b, c, d, e⟩ by rw [begE, if_pos hc], if_pos hc]] at h
      exact ans_len (p := (0, 0)) h
  · exact h.1.elim
end Go.Proofs.Ytijadllhfgajlaa

/- The speed of sound at 0 degrees, evaluated; the document's example. -/
/- The speed of sound at 0 degrees, evaluated; the document's example. -/
set_option linter.all false
namespace Go.Proofs.Ytijadllhfgajlaa
open Go Go.Vx
set_option maxRecDepth 100000
def exB : Bdy := ⟨1, 50000, 50000, 40000, 10000⟩
theorem ex_chk : chkB exB = 0 := by decide +kernel
theorem ex_cor : mouthF exB = (71875, 71875) ∧ endF exB = (15332, 15333) := by decide +kernel
theorem ex_len : lenF exB (440000, 440000) 0 = ((289269, 289271), 0) := by decide +kernel
theorem ex_pit : (pitF exB (289270, 289270) 0).2 = 0 ∧ (pitF exB (289270, 289270) 0).1.1 ≤ 440000 ∧ 440000 ≤ (pitF exB (289270, 289270) 0).1.2 := by decide +kernel
theorem ex_high : (lenF exB (20000000, 20000000) 0).2 = 7 := by decide +kernel
end Go.Proofs.Ytijadllhfgajlaa

/- Lengths, walked: Correction, the example, the law LengthsBack. -/
/- Lengths, walked: Correction, the example, the law LengthsBack. -/
set_option linter.all false
namespace Go.Proofs.Ytijadllhfgajlaa
open Go Go.Vx
set_option maxRecDepth 100000
set_option maxHeartbeats 4000000

def v17 : VF := { ntmps := 20, res := [.cell 2 true 2, .cell 3 true 2, .tmp 4], body :=
 (.seq (.region [u1 1 .box [.tm 0],
 u1 2 (.alloc [(.int .i64 0), (.int .i64 0)]) [],
 u1 3 (.alloc [(.int .i64 0), (.int .i64 0)]) [],
 u1 4 .mov [.cn (.int .i64 0)]])
 (.seq (.seq (.region [u1 6 (.load true 5) [.tm 1],
 u1 7 (.call 20) [.tm 6],
 u1 5 .mov [.tm 7]])
 (.seq (.region [u1 8 .mov [.tm 5],
 u1 9 (.cmp .neq) [.tm 8, .cn (.int .i64 0)]])
 (.cond (.tm 9) (.seq (.region [u1 10 (.build [(.int .i64 0), (.int .i64 0)] []) [],
 u1 11 (.build [(.int .i64 0), (.int .i64 0)] []) [],
 u1 12 .mov [.tm 5],
 u0 (.store 2) [.tm 2, .tm 10],
 u0 (.store 2) [.tm 3, .tm 11],
 u1 4 .mov [.tm 12]])
 .ret)
  .skip)))
 (.seq (.region [u1 14 (.load true 5) [.tm 1],
 u1 15 (.call 22) [.tm 14],
 u1 13 .mov [.tm 15],
 u1 16 (.ext 0) [.tm 13],
 u1 17 (.ext 1) [.tm 13],
 u0 (.store 2) [.tm 2, .tm 16],
 u0 (.store 2) [.tm 3, .tm 17]])
 (.seq (.draw [] [w1 18 (.load true 2) [.tm 2],
 w1 19 (.load true 2) [.tm 3],
 ⟨u0 (.store 2) [.tm 2, .tm 18], [.tm 3]⟩,
 w0 (.store 2) [.tm 3, .tm 19],
 w1 4 .mov [.cn (.int .i64 0)]])
 .ret)))) }
theorem v17_is : vfunc Try.prog Try.f17 = some v17 := by kernel_rfl
def v7 : VF := { ntmps := 17, res := [.tmp 4], body :=
 (.seq (.region [u1 2 .box [.tm 0],
 u1 3 .box [.tm 1],
 u1 4 .mov [.cn (.bool false)]])
 (.seq (.region [u1 5 (.fieldAddr 0) [.tm 2],
 u1 6 (.load false 1) [.tm 5],
 u1 7 (.fieldAddr 0) [.tm 3],
 u1 8 (.load false 1) [.tm 7],
 u1 9 (.cmp .geq) [.tm 6, .tm 8],
 u1 10 .mov [.tm 9],
 u2 11 10 true (.fieldAddr 1) [.tm 2],
 u2 12 10 true (.load false 1) [.tm 11],
 u2 13 10 true (.fieldAddr 1) [.tm 3],
 u2 14 10 true (.load false 1) [.tm 13],
 u2 15 10 true (.cmp .leq) [.tm 12, .tm 14],
 u1 16 .and [.tm 10, .tm 15],
 u1 4 .mov [.tm 16]])
 .ret)) }
theorem v7_is : vfunc Try.prog Try.f7 = some v7 := by kernel_rfl
def v8 : VF := { ntmps := 73, res := [.tmp 0], body :=
 (.seq (.region [u1 0 .mov [.cn (.bool false)]])
 (.seq (.region [u1 11 (.call 18) [],
 u1 12 (.call 17) [.tm 11],
 u1 10 .mov [.tm 12],
 u1 13 (.ext 0) [.tm 10],
 u1 14 (.ext 1) [.tm 10],
 u1 15 (.ext 2) [.tm 10],
 u1 1 (.alloc [(.int .i64 0), (.int .i64 0)]) [],
 u1 2 (.alloc [(.int .i64 0), (.int .i64 0)]) [],
 u0 (.store 2) [.tm 1, .tm 13],
 u0 (.store 2) [.tm 2, .tm 14],
 u1 3 .mov [.tm 15]])
 (.seq (.region [u1 17 (.call 18) [],
 u1 18 (.call 10) [.cn (.int .i64 440000)],
 u1 19 (.call 5) [.tm 17, .tm 18, .cn (.int .i64 0)],
 u1 16 .mov [.tm 19],
 u1 20 (.ext 0) [.tm 16],
 u1 21 (.ext 1) [.tm 16],
 u1 4 (.alloc [(.int .i64 0), (.int .i64 0)]) [],
 u0 (.store 2) [.tm 4, .tm 20],
 u1 5 .mov [.tm 21]])
 (.seq (.region [u1 23 (.call 18) [],
 u1 24 (.call 10) [.cn (.int .i64 289270)],
 u1 25 (.call 6) [.tm 23, .tm 24, .cn (.int .i64 0)],
 u1 22 .mov [.tm 25],
 u1 26 (.ext 0) [.tm 22],
 u1 27 (.ext 1) [.tm 22],
 u1 6 (.alloc [(.int .i64 0), (.int .i64 0)]) [],
 u0 (.store 2) [.tm 6, .tm 26],
 u1 7 .mov [.tm 27]])
 (.seq (.region [u1 29 (.call 18) [],
 u1 30 (.call 10) [.cn (.int .i64 20000000)],
 u1 31 (.call 5) [.tm 29, .tm 30, .cn (.int .i64 0)],
 u1 28 .mov [.tm 31],
 u1 32 (.ext 0) [.tm 28],
 u1 33 (.ext 1) [.tm 28],
 u1 8 (.alloc [(.int .i64 0), (.int .i64 0)]) [],
 u0 (.store 2) [.tm 8, .tm 32],
 u1 9 .mov [.tm 33]])
 (.seq (.draw [] [w1 34 .mov [.tm 3],
 w1 35 (.cmp .eql) [.tm 34, .cn (.int .i64 0)],
 w1 36 .mov [.tm 35],
 ⟨u2 37 36 true .mov [.tm 5], []⟩,
 ⟨u2 38 36 true (.cmp .eql) [.tm 37, .cn (.int .i64 0)], []⟩,
 w1 39 .and [.tm 36, .tm 38],
 w1 40 .mov [.tm 39],
 ⟨u2 41 40 true .mov [.tm 7], []⟩,
 ⟨u2 42 40 true (.cmp .eql) [.tm 41, .cn (.int .i64 0)], []⟩,
 w1 43 .and [.tm 40, .tm 42],
 w1 44 .mov [.tm 43],
 ⟨u2 45 44 true .mov [.tm 9], []⟩,
 ⟨u2 46 44 true (.cmp .eql) [.tm 45, .cn (.int .i64 7)], []⟩,
 w1 47 .and [.tm 44, .tm 46],
 w1 48 .mov [.tm 47],
 ⟨u2 49 48 true (.load true 2) [.tm 1], []⟩,
 ⟨u2 50 48 true (.call 10) [.cn (.int .i64 71875)], []⟩,
 ⟨u2 51 48 true (.eqv false [true, true]) [.tm 49, .tm 50], []⟩,
 w1 52 .and [.tm 48, .tm 51],
 w1 53 .mov [.tm 52],
 ⟨u2 54 53 true (.load true 2) [.tm 2], []⟩,
 ⟨u2 55 53 true (.build [(.int .i64 0), (.int .i64 0)] [(0, 1), (1, 1)]) [.cn (.int .i64 15332), .cn (.int .i64 15333)], []⟩,
 ⟨u2 56 53 true (.eqv false [true, true]) [.tm 54, .tm 55], []⟩,
 w1 57 .and [.tm 53, .tm 56],
 w1 58 .mov [.tm 57],
 ⟨u2 59 58 true (.load true 2) [.tm 4], []⟩,
 ⟨u2 60 58 true (.build [(.int .i64 0), (.int .i64 0)] [(0, 1), (1, 1)]) [.cn (.int .i64 289269), .cn (.int .i64 289271)], []⟩,
 ⟨u2 61 58 true (.eqv false [true, true]) [.tm 59, .tm 60], []⟩,
 w1 62 .and [.tm 58, .tm 61],
 w1 63 .mov [.tm 62],
 ⟨u2 64 63 true (.fieldAddr 0) [.tm 6], []⟩,
 ⟨u2 65 63 true (.load false 1) [.tm 64], []⟩,
 ⟨u2 66 63 true (.cmp .leq) [.tm 65, .cn (.int .i64 440000)], []⟩,
 w1 67 .and [.tm 63, .tm 66],
 w1 68 .mov [.tm 67],
 ⟨u2 69 68 true (.fieldAddr 1) [.tm 6], []⟩,
 ⟨u2 70 68 true (.load false 1) [.tm 69], []⟩,
 ⟨u2 71 68 true (.cmp .geq) [.tm 70, .cn (.int .i64 440000)], []⟩,
 w1 72 .and [.tm 68, .tm 71],
 w1 0 .mov [.tm 72]])
 .ret)))))) }
theorem v8_is : vfunc Try.prog Try.f8 = some v8 := by kernel_rfl
def v18 : VF := { ntmps := 2, res := [.cell 0 true 5], body :=
 (.seq (.region [u1 0 (.alloc [(.int .i64 0), (.int .i64 0), (.int .i64 0), (.int .i64 0), (.int .i64 0)]) []])
 (.seq (.region [u1 1 (.build [(.int .i64 0), (.int .i64 0), (.int .i64 0), (.int .i64 0), (.int .i64 0)] [(0, 1), (1, 1), (2, 1), (3, 1), (4, 1)]) [.cn (.int .i64 1), .cn (.int .i64 50000), .cn (.int .i64 50000), .cn (.int .i64 40000), .cn (.int .i64 10000)],
 u0 (.store 5) [.tm 0, .tm 1]])
 .ret)) }
theorem v18_is : vfunc Try.prog Try.f18 = some v18 := by kernel_rfl
def v10 : VF := { ntmps := 6, res := [.cell 2 true 2], body :=
 (.seq (.region [u1 2 (.alloc [(.int .i64 0), (.int .i64 0)]) []])
 (.seq (.region [u1 3 .mov [.tm 0],
 u1 4 .mov [.tm 0],
 u1 5 (.build [(.int .i64 0), (.int .i64 0)] [(0, 1), (1, 1)]) [.tm 3, .tm 4],
 u0 (.store 2) [.tm 2, .tm 5]])
 .ret)) }
theorem v10_is : vfunc Try.prog Try.f10 = some v10 := by kernel_rfl
def v3 : VF := { ntmps := 81, res := [.tmp 6], body :=
 (.seq (.region [u1 3 .box [.tm 0],
 u1 4 .box [.tm 1],
 u1 6 .mov [.cn (.bool false)]])
 (.seq (.region [u1 15 (.load true 5) [.tm 3],
 u1 16 (.load true 2) [.tm 4],
 u1 17 .mov [.tm 2],
 u1 18 (.call 5) [.tm 15, .tm 16, .tm 17],
 u1 14 .mov [.tm 18],
 u1 19 (.ext 0) [.tm 14],
 u1 20 (.ext 1) [.tm 14],
 u1 7 (.alloc [(.int .i64 0), (.int .i64 0)]) [],
 u0 (.store 2) [.tm 7, .tm 19],
 u1 8 .mov [.tm 20]])
 (.seq (.seq (.region [u1 21 .mov [.tm 8],
 u1 22 (.cmp .eql) [.tm 21, .cn (.int .i64 0)]])
 (.cond (.tm 22) (.seq (.region [u1 24 (.load true 5) [.tm 3],
 u1 25 (.load true 2) [.tm 7],
 u1 26 .mov [.tm 2],
 u1 27 (.call 6) [.tm 24, .tm 25, .tm 26],
 u1 23 .mov [.tm 27],
 u1 28 (.ext 0) [.tm 23],
 u1 29 (.ext 1) [.tm 23],
 u1 9 (.alloc [(.int .i64 0), (.int .i64 0)]) [],
 u0 (.store 2) [.tm 9, .tm 28],
 u1 10 .mov [.tm 29]])
 (.seq (.region [u1 30 .mov [.tm 10],
 u1 31 (.cmp .eql) [.tm 30, .cn (.int .i64 0)],
 u1 32 .mov [.tm 31],
 u2 33 32 true (.load true 2) [.tm 4],
 u2 34 32 true (.load true 2) [.tm 9],
 u2 35 32 true (.call 7) [.tm 33, .tm 34],
 u2 36 32 true .not [.tm 35],
 u1 37 .and [.tm 32, .tm 36],
 u1 38 .mov [.tm 37],
 u2 39 38 false .mov [.tm 10],
 u2 40 38 false (.cmp .eql) [.tm 39, .cn (.int .i64 2)],
 u1 41 .or [.tm 38, .tm 40]])
 (.cond (.tm 41) (.seq (.region [u1 6 .mov [.cn (.bool false)]])
 .ret)
  .skip)))
  .skip))
 (.seq (.region [u1 43 (.load true 5) [.tm 3],
 u1 44 (.load true 2) [.tm 4],
 u1 45 .mov [.tm 2],
 u1 46 (.call 6) [.tm 43, .tm 44, .tm 45],
 u1 42 .mov [.tm 46],
 u1 47 (.ext 0) [.tm 42],
 u1 48 (.ext 1) [.tm 42],
 u1 11 (.alloc [(.int .i64 0), (.int .i64 0)]) [],
 u0 (.store 2) [.tm 11, .tm 47],
 u1 8 .mov [.tm 48]])
 (.seq (.seq (.region [u1 49 .mov [.tm 8],
 u1 50 (.cmp .eql) [.tm 49, .cn (.int .i64 0)],
 u1 51 .mov [.tm 50],
 u2 52 51 true (.fieldAddr 0) [.tm 11],
 u2 53 51 true (.load false 1) [.tm 52],
 u2 54 51 true (.cmp .geq) [.tm 53, .cn (.int .i64 1000)],
 u1 55 .and [.tm 51, .tm 54],
 u1 56 .mov [.tm 55],
 u2 57 56 true (.fieldAddr 1) [.tm 11],
 u2 58 56 true (.load false 1) [.tm 57],
 u2 59 56 true (.cmp .leq) [.tm 58, .cn (.int .i64 20000000)],
 u1 60 .and [.tm 56, .tm 59]])
 (.cond (.tm 60) (.seq (.region [u1 62 (.load true 5) [.tm 3],
 u1 63 (.load true 2) [.tm 11],
 u1 64 .mov [.tm 2],
 u1 65 (.call 5) [.tm 62, .tm 63, .tm 64],
 u1 61 .mov [.tm 65],
 u1 66 (.ext 0) [.tm 61],
 u1 67 (.ext 1) [.tm 61],
 u1 12 (.alloc [(.int .i64 0), (.int .i64 0)]) [],
 u0 (.store 2) [.tm 12, .tm 66],
 u1 13 .mov [.tm 67]])
 (.seq (.region [u1 68 .mov [.tm 13],
 u1 69 (.cmp .eql) [.tm 68, .cn (.int .i64 0)],
 u1 70 .mov [.tm 69],
 u2 71 70 true (.load true 2) [.tm 4],
 u2 72 70 true (.load true 2) [.tm 12],
 u2 73 70 true (.call 7) [.tm 71, .tm 72],
 u2 74 70 true .not [.tm 73],
 u1 75 .and [.tm 70, .tm 74],
 u1 76 .mov [.tm 75],
 u2 77 76 false .mov [.tm 13],
 u2 78 76 false (.cmp .eql) [.tm 77, .cn (.int .i64 2)],
 u1 79 .or [.tm 76, .tm 78]])
 (.cond (.tm 79) (.seq (.region [u1 6 .mov [.cn (.bool false)]])
 .ret)
  .skip)))
  .skip))
 (.seq (.region [u1 80 (.call 8) [],
 u1 6 .mov [.tm 80]])
 .ret)))))) }
theorem v3_is : vfunc Try.prog Try.f3 = some v3 := by kernel_rfl


def crsC : Ctr := { alias := false, of := fun l => match l with
  | [.agg [.int .i64 a, .int .i64 b, .int .i64 c, .int .i64 d, .int .i64 e]] =>
    if chkB ⟨a, b, c, d, e⟩ = 0 then .fin (.tup [.agg (enc2 (mouthF ⟨a, b, c, d, e⟩)), .agg (enc2 (endF ⟨a, b, c, d, e⟩)), .int .i64 0]) []
    else .fin (.tup [.agg (enc2 (0, 0)), .agg (enc2 (0, 0)), .int .i64 (chkB ⟨a, b, c, d, e⟩)]) []
  | _ => noC }
theorem ans_crs {k : SV → List HO → Prop} {al : Bool} {hp : List HO} {p q : Iv} {e : Int} (h : k (.tup [.agg (enc2 p), .agg (enc2 q), .int .i64 e]) []) : answers al k (.tup [.agg [.int .i64 p.1, .int .i64 p.2], .agg [.int .i64 q.1, .int .i64 q.2], .int .i64 e]) hp :=
  ans_le (show k _ [] from h) (le_self (.tup [.agg [.int .i64 p.1, .int .i64 p.2], .agg [.int .i64 q.1, .int .i64 q.2], .int .i64 e]) ⟨⟨trivial, trivial, trivial⟩, ⟨trivial, trivial, trivial⟩, trivial, trivial⟩) (fun _ => by simp [enc2, freshS, freshL])
def L5 : Env := { ct := fun n => match n with | 20 => some chkBC | 22 => some corC | _ => none, fn := fun _ => none, meth := fun _ _ => none }
theorem L5_ct20 : L5.ct 20 = some chkBC := rfl
theorem L5_ct22 : L5.ct 22 = some corC := rfl
theorem L5_ok : EnvOk Try.prog L5 := by
  refine ⟨fun f c h => ?_, fun f vf h => ?_, (fun _ _ _ h => by cases h), by kernel_rfl, (fun _ h => by cases h)⟩
  · simp only [L5] at h
    split at h
    · cases h; exact ⟨chkB_c, Try.f20, Try.func20, by kernel_rfl, by kernel_rfl⟩
    · cases h; exact ⟨cor_c, Try.f22, Try.func22, by kernel_rfl, by kernel_rfl⟩
    · cases h
  · cases h

theorem crs_c : crsC.ok Try.prog 17 := by
  refine contract Try.func17 v17_is L5_ok 200 crsC fun args k h => ?_
  simp only [crsC] at h
  split at h
  · rename_i a b c d e
    refine ⟨[.agg [.int .i64 a, .int .i64 b, .int .i64 c, .int .i64 d, .int .i64 e]], by simp [leL, le], ?_⟩
    dsimp only [v17, L5_ct20, L5_ct22, chkBC, corC, enc2, go_sem, Option.bind, Option.map, List.append_nil, Nat.beq, List.cons_append, List.nil_append, List.append_eq, List.map_cons, List.map_nil, ite_self, reduceIte]
    simp only [true_and, and_true, imp_self, implies_true, decide_eq_true_eq, decide_eq_false_iff_not, Nat.reduceAdd, Nat.reduceLeDiff, Bool.not_not, reduceCtorEq, false_imp_iff, Bool.not_eq_true', Bool.not_eq_false', Bool.false_eq_true, and_self, forall_const, ne_eq, not_false_eq_true, Nat.reduceEqDiff]
    refine ⟨fun hc => ?_, fun hc => ⟨hc, by decide, by decide, ?_⟩⟩
    · rw [if_neg hc] at h; exact ans_crs (p := (0, 0)) (q := (0, 0)) h
    · rw [if_pos hc] at h
      exact ans_crs h
  · exact h.1.elim
def nivC : Ctr := { alias := false, of := fun l => match l with
  | [.int .i64 n] => .fin (.agg [.int .i64 n, .int .i64 n]) []
  | _ => .pre False (.fin (.agg [.int .i64 0, .int .i64 0]) []) }
def L60 : Env := { ct := fun _ => none, fn := fun _ => none, meth := fun _ _ => none }
theorem L60_ok : EnvOk Try.prog L60 := by
  refine ⟨fun f c h => ?_, fun f vf h => ?_, (fun _ _ _ h => by cases h), by kernel_rfl, (fun _ h => by cases h)⟩
  · cases h
  · cases h

theorem niv_c : nivC.ok Try.prog 10 := by
  refine contract Try.func10 v10_is L60_ok 100 nivC fun args k h => ?_
  simp only [nivC] at h
  split at h
  · rename_i n
    refine ⟨[.int .i64 n], by simp [leL, le], ?_⟩
    dsimp only [v10, go_sem, Option.bind, Option.map, List.append_nil, Nat.beq, List.cons_append, List.nil_append, List.append_eq, List.map_cons, List.map_nil, ite_self, reduceIte]
    simp only [true_and, and_true, imp_self, implies_true, decide_eq_true_eq, decide_eq_false_iff_not, Nat.reduceAdd, Nat.reduceLeDiff, Bool.not_not, reduceCtorEq, false_imp_iff, Bool.not_eq_true', Bool.not_eq_false', Bool.false_eq_true, and_self, forall_const, ne_eq, not_false_eq_true, Nat.reduceEqDiff]
    exact ans_ii2 h
  · exact h.1.elim
def L6 : Env := { ct := fun n => match n with | 10 => some nivC | 17 => some crsC | 5 => some lenC | 6 => some pitC | _ => none, fn := fun n => match n with | 18 => some v18 | _ => none, meth := fun _ _ => none }
theorem L6_ct10 : L6.ct 10 = some nivC := rfl
theorem L6_ct17 : L6.ct 17 = some crsC := rfl
theorem L6_ct5 : L6.ct 5 = some lenC := rfl
theorem L6_ct6 : L6.ct 6 = some pitC := rfl
theorem L6_ct18 : L6.ct 18 = none := rfl
theorem L6_fn18 : L6.fn 18 = some v18 := rfl
theorem L6_ok : EnvOk Try.prog L6 := by
  refine ⟨fun f c h => ?_, fun f vf h => ?_, (fun _ _ _ h => by cases h), by kernel_rfl, (fun _ h => by cases h)⟩
  · simp only [L6] at h
    split at h
    · cases h; exact ⟨niv_c, Try.f10, Try.func10, by kernel_rfl, by kernel_rfl⟩
    · cases h; exact ⟨crs_c, Try.f17, Try.func17, by kernel_rfl, by kernel_rfl⟩
    · cases h; exact ⟨len_c, Try.f5, Try.func5, by kernel_rfl, by kernel_rfl⟩
    · cases h; exact ⟨pit_c, Try.f6, Try.func6, by kernel_rfl, by kernel_rfl⟩
    · cases h
  · simp only [L6] at h
    split at h
    · cases h; exact ⟨Try.f18, Try.func18, v18_is, Try.f18, Try.func18, by kernel_rfl, by kernel_rfl⟩
    · cases h

theorem ex_chk' : chkB { kind := 1, bottom := 50000, top := 50000, mouth := 40000, cut := 10000 } = 0 := ex_chk
theorem shown_c : trueC.ok Try.prog 8 := by
  refine contract Try.func8 v8_is L6_ok 400 trueC fun args k h => ?_
  simp only [trueC] at h
  split at h
  · refine ⟨[], by simp [leL, le], ?_⟩
    dsimp only [v8, L6_ct17, L6_ct5, L6_ct6, crsC, lenC, pitC, enc2, L6_ct18, L6_fn18, v18, L6_ct10, nivC, go_sem, Option.bind, Option.map, List.append_nil, Nat.beq, List.cons_append, List.nil_append, List.append_eq, List.map_cons, List.map_nil, ite_self, reduceIte]
    simp only [true_and, and_true, imp_self, implies_true, decide_eq_true_eq, decide_eq_false_iff_not, Nat.reduceAdd, Nat.reduceLeDiff, Bool.not_not, reduceCtorEq, false_imp_iff, Bool.not_eq_true', Bool.not_eq_false', Bool.false_eq_true, and_self, forall_const, ne_eq, not_false_eq_true, Nat.reduceEqDiff]
    simp only [if_pos ex_chk']
    (try dsimp only [v8, L6_ct17, L6_ct5, L6_ct6, crsC, lenC, pitC, enc2, L6_ct18, L6_fn18, v18, L6_ct10, nivC, go_sem, Option.bind, Option.map, List.append_nil, Nat.beq, List.cons_append, List.nil_append, List.append_eq, List.map_cons, List.map_nil, ite_self, reduceIte]); (try simp only [true_and, and_true, imp_self, implies_true, decide_eq_true_eq, decide_eq_false_iff_not, Nat.reduceAdd, Nat.reduceLeDiff, Bool.not_not, reduceCtorEq, false_imp_iff, Bool.not_eq_true', Bool.not_eq_false', Bool.false_eq_true, and_self, forall_const, ne_eq, not_false_eq_true, Nat.reduceEqDiff])
    refine ⟨by decide, by decide, by decide, by decide, by decide, by decide, by decide, by decide, by decide, ?_⟩
    obtain ⟨c1, c2⟩ := ex_cor
    have l1 := ex_len
    have l2 := ex_high
    obtain ⟨p1, p2, p3⟩ := ex_pit
    unfold exB at c1 c2 l1 l2 p1 p2 p3
    rw [l2, p1, l1, c1, c2, decide_eq_true p2, decide_eq_true p3]
    exact ans_bool h
  · exact h.1.elim
def shB : List Sh := [.int .i64, .int .i64, .int .i64, .int .i64, .int .i64]
def lawB : List PSh := [⟨true, shB⟩, ⟨true, bare2⟩, ⟨false, [.int .i64]⟩]
theorem bdy_of {cs : List SV} (h : okSL shB cs) : ∃ B : Bdy, cs = encY B := by
  obtain ⟨_, _, rfl, ⟨n1, rfl, _⟩, e1⟩ := okSL_cons_inv h
  obtain ⟨_, _, rfl, ⟨n2, rfl, _⟩, e2⟩ := okSL_cons_inv e1
  obtain ⟨_, _, rfl, ⟨n3, rfl, _⟩, e3⟩ := okSL_cons_inv e2
  obtain ⟨_, _, rfl, ⟨n4, rfl, _⟩, e4⟩ := okSL_cons_inv e3
  obtain ⟨_, _, rfl, ⟨n5, rfl, _⟩, e5⟩ := okSL_cons_inv e4
  cases okSL_nil_inv e5
  exact ⟨⟨n1, n2, n3, n4, n5⟩, rfl⟩
theorem okP_i64 {v : SV} (h : okP ⟨false, [.int .i64]⟩ v) : ∃ n, v = .int .i64 n := by
  obtain ⟨_, _, e, ⟨n1, rfl, _⟩, e1⟩ := okSL_cons_inv h
  cases e
  exact ⟨n1, rfl⟩
def winC : Ctr := { alias := false, of := fun l => match l with
  | [.agg [.int .i64 a, .int .i64 b], .agg [.int .i64 c, .int .i64 d]] => .fin (.bool (withinF (a, b) (c, d))) []
  | _ => .pre False (.fin (.bool false) []) }
theorem win_c : winC.ok Try.prog 7 := by
  refine contract Try.func7 v7_is L60_ok 100 winC fun args k h => ?_
  simp only [winC] at h
  split at h
  · rename_i a b c d
    refine ⟨[.agg [.int .i64 a, .int .i64 b], .agg [.int .i64 c, .int .i64 d]], by simp [leL, le], ?_⟩
    dsimp only [v7, go_sem, Option.bind, Option.map, List.append_nil, Nat.beq, List.cons_append, List.nil_append, List.append_eq, List.map_cons, List.map_nil, ite_self, reduceIte]
    simp only [true_and, and_true, imp_self, implies_true, decide_eq_true_eq, decide_eq_false_iff_not, Nat.reduceAdd, Nat.reduceLeDiff, Bool.not_not, reduceCtorEq, false_imp_iff, Bool.not_eq_true', Bool.not_eq_false', Bool.false_eq_true, and_self, forall_const, ne_eq, not_false_eq_true, Nat.reduceEqDiff]
    exact ans_bool h
  · exact h.1.elim
def L7 : Env := { ct := fun n => match n with | 7 => some winC | 5 => some lenC | 6 => some pitC | 8 => some trueC | _ => none, fn := fun _ => none, meth := fun _ _ => none }
theorem L7_ct7 : L7.ct 7 = some winC := rfl
theorem L7_ct5 : L7.ct 5 = some lenC := rfl
theorem L7_ct6 : L7.ct 6 = some pitC := rfl
theorem L7_ct8 : L7.ct 8 = some trueC := rfl
theorem L7_ok : EnvOk Try.prog L7 := by
  refine ⟨fun f c h => ?_, fun f vf h => ?_, (fun _ _ _ h => by cases h), by kernel_rfl, (fun _ h => by cases h)⟩
  · simp only [L7] at h
    split at h
    · cases h; exact ⟨win_c, Try.f7, Try.func7, by kernel_rfl, by kernel_rfl⟩
    · cases h; exact ⟨len_c, Try.f5, Try.func5, by kernel_rfl, by kernel_rfl⟩
    · cases h; exact ⟨pit_c, Try.f6, Try.func6, by kernel_rfl, by kernel_rfl⟩
    · cases h; exact ⟨shown_c, Try.f8, Try.func8, by kernel_rfl, by kernel_rfl⟩
    · cases h
  · cases h

theorem lawBack : (lawC lawB).ok Try.prog 3 := by
  refine contract Try.func3 v3_is L7_ok 600 (lawC lawB) fun args k h => ?_
  obtain ⟨ha, hk⟩ := h
  obtain ⟨_, _, rfl, h1, e1⟩ := okPL_cons_inv ha
  obtain ⟨cs, rfl, hcs⟩ := okP_agg_inv h1
  obtain ⟨_, _, rfl, h2, e2⟩ := okPL_cons_inv e1
  obtain ⟨ds, rfl, hds⟩ := okP_agg_inv h2
  obtain ⟨_, _, rfl, h3, e3⟩ := okPL_cons_inv e2
  cases okPL_nil_inv e3
  obtain ⟨B, rfl⟩ := bdy_of hcs
  obtain ⟨⟨x0, x1⟩, rfl⟩ := iv_of hds
  obtain ⟨t, rfl⟩ := okP_i64 h3
  obtain ⟨a, b, c, d, e⟩ := B
  refine ⟨[.agg [.int .i64 a, .int .i64 b, .int .i64 c, .int .i64 d, .int .i64 e], .agg [.int .i64 x0, .int .i64 x1], .int .i64 t], ?_, ?_⟩
  · simp [encY, enc2, leL, le]
  dsimp only [v3, L7_ct5, L7_ct6, L7_ct8, trueC, lenC, pitC, enc2, L7_ct7, winC, go_sem, Option.bind, Option.map, List.append_nil, Nat.beq, List.cons_append, List.nil_append, List.append_eq, List.map_cons, List.map_nil, ite_self, reduceIte]
  simp only [true_and, and_true, imp_self, implies_true, decide_eq_true_eq, decide_eq_false_iff_not, Nat.reduceAdd, Nat.reduceLeDiff, Bool.not_not, reduceCtorEq, false_imp_iff, Bool.not_eq_true', Bool.not_eq_false', Bool.false_eq_true, and_self, forall_const, ne_eq, not_false_eq_true, Nat.reduceEqDiff]
  have hk' : k (.bool true) [] := hk
  have F1 : (lenF ⟨a, b, c, d, e⟩ (x0, x1) t).2 = 0 → (pitF ⟨a, b, c, d, e⟩ ((lenF ⟨a, b, c, d, e⟩ (x0, x1) t).1.1, (lenF ⟨a, b, c, d, e⟩ (x0, x1) t).1.2) t).2 ≠ 2 ∧ ((pitF ⟨a, b, c, d, e⟩ ((lenF ⟨a, b, c, d, e⟩ (x0, x1) t).1.1, (lenF ⟨a, b, c, d, e⟩ (x0, x1) t).1.2) t).2 = 0 → withinF (x0, x1) (pitF ⟨a, b, c, d, e⟩ ((lenF ⟨a, b, c, d, e⟩ (x0, x1) t).1.1, (lenF ⟨a, b, c, d, e⟩ (x0, x1) t).1.2) t).1 = true) := fun h => back_1 h
  have F2 : (pitF ⟨a, b, c, d, e⟩ (x0, x1) t).2 = 0 → 1000 ≤ (pitF ⟨a, b, c, d, e⟩ (x0, x1) t).1.1 → (pitF ⟨a, b, c, d, e⟩ (x0, x1) t).1.2 ≤ 20000000 → (lenF ⟨a, b, c, d, e⟩ ((pitF ⟨a, b, c, d, e⟩ (x0, x1) t).1.1, (pitF ⟨a, b, c, d, e⟩ (x0, x1) t).1.2) t).2 ≠ 2 ∧ ((lenF ⟨a, b, c, d, e⟩ ((pitF ⟨a, b, c, d, e⟩ (x0, x1) t).1.1, (pitF ⟨a, b, c, d, e⟩ (x0, x1) t).1.2) t).2 = 0 → withinF (x0, x1) (lenF ⟨a, b, c, d, e⟩ ((pitF ⟨a, b, c, d, e⟩ (x0, x1) t).1.1, (pitF ⟨a, b, c, d, e⟩ (x0, x1) t).1.2) t).1 = true) := fun h h0 h1 => back_2 h h0 h1
  generalize lenF ⟨a, b, c, d, e⟩ (x0, x1) t = L at *
  generalize pitF ⟨a, b, c, d, e⟩ (L.1.1, L.1.2) t = P at *
  generalize pitF ⟨a, b, c, d, e⟩ (x0, x1) t = Q at *
  generalize lenF ⟨a, b, c, d, e⟩ (Q.1.1, Q.1.2) t = M at *
  have G1 : L.2 = 0 → (decide (P.2 = 0) && !withinF (x0, x1) (P.1.1, P.1.2) || decide (P.2 = 2)) = false := fun h => by
    obtain ⟨h1, h2⟩ := F1 h
    rw [decide_eq_false h1, Bool.or_false]
    by_cases h3 : P.2 = 0
    · rw [show withinF (x0, x1) (P.1.1, P.1.2) = true from h2 h3]; simp
    · rw [decide_eq_false h3]; rfl
  have G2 : (decide (Q.2 = 0) && decide (1000 ≤ Q.1.1) && decide (Q.1.2 ≤ 20000000)) = true → (decide (M.2 = 0) && !withinF (x0, x1) (M.1.1, M.1.2) || decide (M.2 = 2)) = false := fun h => by
    simp only [Bool.and_eq_true, decide_eq_true_eq] at h
    obtain ⟨h1, h2⟩ := F2 h.1.1 h.1.2 h.2
    rw [decide_eq_false h1, Bool.or_false]
    by_cases h3 : M.2 = 0
    · rw [show withinF (x0, x1) (M.1.1, M.1.2) = true from h2 h3]; simp
    · rw [decide_eq_false h3]; rfl
  generalize (decide (P.2 = 0) && !withinF (x0, x1) (P.1.1, P.1.2) || decide (P.2 = 2)) = c1 at *
  generalize (decide (M.2 = 0) && !withinF (x0, x1) (M.1.1, M.1.2) || decide (M.2 = 2)) = c2 at *
  repeat' (first | exact ans_bool hk' | decide | apply And.intro | intro hh)
  all_goals (exfalso; simp_all)
end Go.Proofs.Ytijadllhfgajlaa

/- Laws, as they are given, without a condition. -/
/- Laws, as they are given, without a condition. -/
set_option linter.all false
namespace Go.Proofs.Ytijadllhfgajlaa
open Go Go.Vx Go.RowKit
set_option maxRecDepth 100000

theorem ownX1 : ownKnob Try.prog.godebug = none := by kernel_rfl
theorem laidX1 : laidOutB Try.prog = true := by kernel_rfl

theorem lengthsBack_lifted (os : Os) (started : os.Started) (H : Type) (enc : TypeId × Value → H) :
    ReturnsInHanded {} Try.checked os 3 .any (Rows.lengthsBackSpec.pre6 enc Try.prog Try.f3 Rows.lengthsBackRow.domain false) (Rows.lengthsBackSpec.post enc Try.prog Try.f3 false true false false) :=
  law_lifted (C := Try.checked) (tb := 4) ownX1 started (by kernel_rfl) Try.func3 laidX1
    (ChangeSpec.witness6 (enc := enc) (C := Try.checked) false ⟨#[], #[.agg #[.int .i64 0, .int .i64 0, .int .i64 0, .int .i64 0, .int .i64 0], .agg #[.int .i64 0, .int .i64 0], .int .i64 0], []⟩ 8 (by kernel_rfl) (by kernel_rfl) (by kernel_rfl) (by kernel_rfl))
    (by kernel_rfl) (by kernel_rfl) (by kernel_rfl) (by kernel_rfl) rfl (fun ds h => match ds, h with | [_, _, _], _ => ⟨rfl, rfl, rfl⟩) lawBack

theorem lengthsBack_holds : Rows.LengthsBackSaid :=
  OpenClaim.holds_of_wide 3 Try.f3 rfl rfl rfl rfl rfl rfl rfl ⟨rfl, rfl, rfl, rfl, rfl⟩ rfl rfl rfl rfl rfl (by kernel_rfl) Try.func3 (by kernel_rfl)
    (of_decide_eq_true (by kernel_rfl)) (by unfold Func.isWrapper; first | (rw [if_pos (by decide +kernel)]; kernel_rfl) | (rw [if_neg (by decide +kernel)]; exact ⟨rfl, rfl⟩))
    (fun os started H enc _ => lengthsBack_lifted os started H enc)

end Go.Proofs.Ytijadllhfgajlaa

