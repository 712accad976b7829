/- Layouts, walked: from where a pipe is reached. -/
import Derived.Test.YtojaibhjfeojjaaMgX11c
set_option linter.all false
namespace Go.Proofs.Ytojaibhjfeojjaa
open Go Go.Vx
set_option maxRecDepth 100000
set_option maxHeartbeats 4000000

def v77 : VF := { ntmps := 18, res := [.cell 4 true 2], body :=
 (.seq (.region [⟨(some 4), none, (.allocArr 2 1 [(.int .u64 0), (.int .u64 0)]), []⟩])
 (.seq (.region [⟨(some 8), none, .mov, [.tm 0]⟩,
  ⟨(some 9), none, (.conv .u64), [.tm 8]⟩,
  ⟨(some 10), none, .mov, [.tm 1]⟩,
  ⟨(some 11), none, (.conv .u64), [.tm 10]⟩,
  ⟨(some 12), none, (.call 80), [.tm 9, .tm 11]⟩,
  ⟨(some 7), none, .mov, [.tm 12]⟩,
  ⟨(some 13), none, (.ext 0), [.tm 7]⟩,
  ⟨(some 14), none, (.ext 1), [.tm 7]⟩,
  ⟨(some 5), none, .mov, [.tm 13]⟩,
  ⟨(some 6), none, .mov, [.tm 14]⟩])
 (.seq (.region [⟨(some 15), none, .mov, [.tm 5]⟩,
  ⟨(some 16), none, .mov, [.tm 6]⟩,
  ⟨(some 17), none, (.build [(.int .u64 0), (.int .u64 0)] [(0, 1), (1, 1)]), [.tm 15, .tm 16]⟩,
  ⟨none, none, (.store 2), [.tm 4, .tm 17]⟩])
 .ret))) }
theorem v77_is : vfunc Try.prog Try.f77 = some v77 := by kernel_rfl
def v78 : VF := { ntmps := 27, res := [.tmp 4], body :=
 (.seq (.region [⟨(some 2), none, .box, [.tm 0]⟩,
  ⟨(some 3), none, .box, [.tm 1]⟩,
  ⟨(some 4), none, .mov, [.cn (.bool false)]⟩])
 (.seq (.seq (.region [⟨(some 5), none, (.load true 2), [.tm 2]⟩,
  ⟨(some 6), none, (.load true 2), [.tm 3]⟩,
  ⟨(some 7), none, (.eqv false [true, true]), [.tm 5, .tm 6]⟩])
 (.cond (.tm 7) (.seq (.region [⟨(some 4), none, .mov, [.cn (.bool false)]⟩])
 .ret)
  .skip))
 (.seq (.region [⟨(some 8), none, (.idxArr 2 1), [.tm 2, .cn (.int .i64 0)]⟩,
  ⟨(some 9), none, (.load false 1), [.tm 8]⟩,
  ⟨(some 10), none, (.idxArr 2 1), [.tm 3, .cn (.int .i64 0)]⟩,
  ⟨(some 11), none, (.load false 1), [.tm 10]⟩,
  ⟨(some 12), none, (.cmp .lss), [.tm 9, .tm 11]⟩,
  ⟨(some 13), none, .mov, [.tm 12]⟩,
  ⟨(some 14), (some (13, false)), (.idxArr 2 1), [.tm 2, .cn (.int .i64 0)]⟩,
  ⟨(some 15), (some (13, false)), (.load false 1), [.tm 14]⟩,
  ⟨(some 16), (some (13, false)), (.idxArr 2 1), [.tm 3, .cn (.int .i64 0)]⟩,
  ⟨(some 17), (some (13, false)), (.load false 1), [.tm 16]⟩,
  ⟨(some 18), (some (13, false)), (.cmp .eql), [.tm 15, .tm 17]⟩,
  ⟨(some 19), (some (13, false)), .mov, [.tm 18]⟩,
  ⟨(some 20), (some (19, true)), (.idxArr 2 1), [.tm 2, .cn (.int .i64 1)]⟩,
  ⟨(some 21), (some (19, true)), (.load false 1), [.tm 20]⟩,
  ⟨(some 22), (some (19, true)), (.idxArr 2 1), [.tm 3, .cn (.int .i64 1)]⟩,
  ⟨(some 23), (some (19, true)), (.load false 1), [.tm 22]⟩,
  ⟨(some 24), (some (19, true)), (.cmp .lss), [.tm 21, .tm 23]⟩,
  ⟨(some 25), (some (13, false)), .and, [.tm 19, .tm 24]⟩,
  ⟨(some 26), none, .or, [.tm 13, .tm 25]⟩,
  ⟨(some 4), none, .mov, [.tm 26]⟩])
 .ret))) }
theorem v78_is : vfunc Try.prog Try.f78 = some v78 := by kernel_rfl
def v66 : VF := { ntmps := 73, res := [.tmp 10], body :=
 (.seq (.region [⟨(some 10), none, .mov, [.cn (.bool false)]⟩])
 (.seq (.region [⟨(some 14), none, .mov, [.tm 0]⟩,
  ⟨(some 15), none, .mov, [.tm 2]⟩,
  ⟨(some 16), none, (.ari .mul), [.tm 14, .tm 15]⟩,
  ⟨(some 17), none, .mov, [.tm 1]⟩,
  ⟨(some 18), none, .mov, [.tm 3]⟩,
  ⟨(some 19), none, (.ari .mul), [.tm 17, .tm 18]⟩,
  ⟨(some 20), none, (.ari .add), [.tm 16, .tm 19]⟩,
  ⟨(some 21), none, .mov, [.tm 0]⟩,
  ⟨(some 22), none, .mov, [.tm 1]⟩,
  ⟨(some 23), none, (.call 64), [.tm 21, .tm 22]⟩,
  ⟨(some 11), none, .mov, [.tm 20]⟩,
  ⟨(some 12), none, .mov, [.tm 23]⟩])
 (.block 0 (.seq (.region [⟨(some 49), none, .mov, [.tm 11]⟩,
  ⟨(some 50), none, (.cmp .leq), [.tm 49, .cn (.int .i64 0)]⟩,
  ⟨(some 48), none, .mov, [.tm 50]⟩])
 (.cond (.tm 48) (.seq (.region [⟨(some 51), none, .mov, [.tm 2]⟩,
  ⟨(some 52), none, .mov, [.tm 3]⟩,
  ⟨(some 53), none, (.call 64), [.tm 51, .tm 52]⟩,
  ⟨(some 54), none, .mov, [.tm 4]⟩,
  ⟨(some 55), none, .mov, [.tm 4]⟩,
  ⟨(some 56), none, (.ari .mul), [.tm 54, .tm 55]⟩,
  ⟨(some 57), none, (.cmp .lss), [.tm 53, .tm 56]⟩,
  ⟨(some 10), none, .mov, [.tm 57]⟩])
 .ret)
  (.seq (.region [⟨(some 59), none, .mov, [.tm 11]⟩,
  ⟨(some 60), none, .mov, [.tm 12]⟩,
  ⟨(some 61), none, (.cmp .geq), [.tm 59, .tm 60]⟩,
  ⟨(some 58), none, .mov, [.tm 61]⟩])
 (.cond (.tm 58) (.seq (.region [⟨(some 62), none, .mov, [.tm 2]⟩,
  ⟨(some 63), none, .mov, [.tm 0]⟩,
  ⟨(some 64), none, (.ari .sub), [.tm 62, .tm 63]⟩,
  ⟨(some 65), none, .mov, [.tm 3]⟩,
  ⟨(some 66), none, .mov, [.tm 1]⟩,
  ⟨(some 67), none, (.ari .sub), [.tm 65, .tm 66]⟩,
  ⟨(some 68), none, (.call 64), [.tm 64, .tm 67]⟩,
  ⟨(some 69), none, .mov, [.tm 4]⟩,
  ⟨(some 70), none, .mov, [.tm 4]⟩,
  ⟨(some 71), none, (.ari .mul), [.tm 69, .tm 70]⟩,
  ⟨(some 72), none, (.cmp .lss), [.tm 68, .tm 71]⟩,
  ⟨(some 10), none, .mov, [.tm 72]⟩])
 .ret)
  (.seq (.region [⟨(some 24), none, .mov, [.tm 0]⟩,
  ⟨(some 25), none, .mov, [.tm 3]⟩,
  ⟨(some 26), none, (.ari .mul), [.tm 24, .tm 25]⟩,
  ⟨(some 27), none, .mov, [.tm 1]⟩,
  ⟨(some 28), none, .mov, [.tm 2]⟩,
  ⟨(some 29), none, (.ari .mul), [.tm 27, .tm 28]⟩,
  ⟨(some 30), none, (.ari .sub), [.tm 26, .tm 29]⟩,
  ⟨(some 31), none, .mov, [.tm 1]⟩,
  ⟨(some 32), none, .mov, [.tm 2]⟩,
  ⟨(some 33), none, (.ari .mul), [.tm 31, .tm 32]⟩,
  ⟨(some 34), none, .mov, [.tm 0]⟩,
  ⟨(some 35), none, .mov, [.tm 3]⟩,
  ⟨(some 36), none, (.ari .mul), [.tm 34, .tm 35]⟩,
  ⟨(some 37), none, (.ari .sub), [.tm 33, .tm 36]⟩,
  ⟨(some 38), none, .max, [.tm 30, .tm 37]⟩,
  ⟨(some 13), none, .mov, [.tm 38]⟩])
 (.seq (.region [⟨(some 39), none, .mov, [.tm 13]⟩,
  ⟨(some 40), none, .mov, [.tm 13]⟩,
  ⟨(some 41), none, (.call 77), [.tm 39, .tm 40]⟩,
  ⟨(some 42), none, .mov, [.tm 4]⟩,
  ⟨(some 43), none, .mov, [.tm 4]⟩,
  ⟨(some 44), none, (.ari .mul), [.tm 42, .tm 43]⟩,
  ⟨(some 45), none, .mov, [.tm 12]⟩,
  ⟨(some 46), none, (.call 77), [.tm 44, .tm 45]⟩,
  ⟨(some 47), none, (.call 78), [.tm 41, .tm 46]⟩,
  ⟨(some 10), none, .mov, [.tm 47]⟩])
 .ret))))))))) }
theorem v66_is : vfunc Try.prog Try.f66 = some v66 := by kernel_rfl
def v65 : VF := { ntmps := 33, res := [.tmp 7], body :=
 (.seq (.region [⟨(some 6), none, .box, [.tm 0]⟩,
  ⟨(some 7), none, .mov, [.cn (.bool false)]⟩])
 (.seq (.region [⟨(some 8), none, (.fieldAddr 3), [.tm 6]⟩,
  ⟨(some 9), none, (.load false 1), [.tm 8]⟩,
  ⟨(some 10), none, (.fieldAddr 3), [.tm 1]⟩,
  ⟨(some 11), none, (.load false 1), [.tm 10]⟩,
  ⟨(some 12), none, (.cmp .gtr), [.tm 9, .tm 11]⟩,
  ⟨(some 13), none, .mov, [.tm 12]⟩,
  ⟨(some 14), (some (13, true)), (.load false 1), [.tm 2]⟩,
  ⟨(some 15), (some (13, true)), (.load false 1), [.tm 3]⟩,
  ⟨(some 16), (some (13, true)), (.fieldAddr 0), [.tm 6]⟩,
  ⟨(some 17), (some (13, true)), (.load false 1), [.tm 16]⟩,
  ⟨(some 18), (some (13, true)), (.fieldAddr 0), [.tm 4]⟩,
  ⟨(some 19), (some (13, true)), (.load false 1), [.tm 18]⟩,
  ⟨(some 20), (some (13, true)), (.ari .sub), [.tm 17, .tm 19]⟩,
  ⟨(some 21), (some (13, true)), (.fieldAddr 1), [.tm 6]⟩,
  ⟨(some 22), (some (13, true)), (.load false 1), [.tm 21]⟩,
  ⟨(some 23), (some (13, true)), (.fieldAddr 1), [.tm 4]⟩,
  ⟨(some 24), (some (13, true)), (.load false 1), [.tm 23]⟩,
  ⟨(some 25), (some (13, true)), (.ari .sub), [.tm 22, .tm 24]⟩,
  ⟨(some 26), (some (13, true)), (.fieldAddr 2), [.tm 6]⟩,
  ⟨(some 27), (some (13, true)), (.load false 1), [.tm 26]⟩,
  ⟨(some 28), (some (13, true)), (.fieldAddr 4), [.tm 5]⟩,
  ⟨(some 29), (some (13, true)), (.load false 1), [.tm 28]⟩,
  ⟨(some 30), (some (13, true)), (.ari .add), [.tm 27, .tm 29]⟩,
  ⟨(some 31), (some (13, true)), (.call 66), [.tm 14, .tm 15, .tm 20, .tm 25, .tm 30]⟩,
  ⟨(some 32), none, .and, [.tm 13, .tm 31]⟩,
  ⟨(some 7), none, .mov, [.tm 32]⟩])
 .ret)) }
theorem v65_is : vfunc Try.prog Try.f65 = some v65 := by kernel_rfl
def v45 : VF := { ntmps := 43, res := [.tmp 8], body :=
 (.seq (.region [⟨(some 4), none, .box, [.tm 0]⟩,
  ⟨(some 6), none, .box, [.tm 2]⟩,
  ⟨(some 8), none, .mov, [.cn (.bool false)]⟩])
 (.seq (.region [⟨(some 13), none, .mov, [.tm 1]⟩,
  ⟨(some 14), none, .mov, [.tm 3]⟩,
  ⟨(some 15), none, (.idxAddr 4), [.tm 13, .tm 14]⟩,
  ⟨(some 16), none, (.load true 4), [.tm 15]⟩,
  ⟨(some 9), none, (.alloc [(.int .i64 0), (.int .i64 0), (.int .i64 0), (.int .i64 0)]), []⟩,
  ⟨none, none, (.store 4), [.tm 9, .tm 16]⟩])
 (.seq (.draw [(10, .box [(.int .i64 0)]), (11, .box [(.int .i64 0)])] [⟨⟨(some 17), none, (.fieldAddr 0), [.tm 9]⟩, []⟩,
  ⟨⟨(some 18), none, (.load false 1), [.tm 17]⟩, []⟩,
  ⟨⟨(some 19), none, (.fieldAddr 0), [.tm 6]⟩, []⟩,
  ⟨⟨(some 20), none, (.load false 1), [.tm 19]⟩, []⟩,
  ⟨⟨(some 21), none, (.ari .sub), [.tm 18, .tm 20]⟩, []⟩,
  ⟨⟨(some 22), none, (.fieldAddr 1), [.tm 9]⟩, []⟩,
  ⟨⟨(some 23), none, (.load false 1), [.tm 22]⟩, []⟩,
  ⟨⟨(some 24), none, (.fieldAddr 1), [.tm 6]⟩, []⟩,
  ⟨⟨(some 25), none, (.load false 1), [.tm 24]⟩, []⟩,
  ⟨⟨(some 26), none, (.ari .sub), [.tm 23, .tm 25]⟩, []⟩,
  ⟨⟨none, none, (.store 1), [.tm 10, .tm 21]⟩, [.tm 22, .tm 24]⟩,
  ⟨⟨none, none, (.store 1), [.tm 11, .tm 26]⟩, []⟩])
 (.seq (.seq (.region [⟨(some 27), none, (.fieldAddr 3), [.tm 4]⟩,
  ⟨(some 28), none, (.load false 1), [.tm 27]⟩,
  ⟨(some 29), none, (.fieldAddr 2), [.tm 9]⟩,
  ⟨(some 30), none, (.load false 1), [.tm 29]⟩,
  ⟨(some 31), none, (.ari .add), [.tm 28, .tm 30]⟩,
  ⟨(some 12), none, .mov, [.tm 31]⟩])
 (.seq (.region [⟨(some 32), none, (.load false 1), [.tm 10]⟩,
  ⟨(some 33), none, (.load false 1), [.tm 11]⟩,
  ⟨(some 34), none, (.call 64), [.tm 32, .tm 33]⟩,
  ⟨(some 35), none, .mov, [.tm 12]⟩,
  ⟨(some 36), none, .mov, [.tm 12]⟩,
  ⟨(some 37), none, (.ari .mul), [.tm 35, .tm 36]⟩,
  ⟨(some 38), none, (.cmp .gtr), [.tm 34, .tm 37]⟩])
 (.cond (.tm 38) (.seq (.region [⟨(some 8), none, .mov, [.cn (.bool false)]⟩])
 .ret)
  .skip)))
 (.seq (.region [⟨(some 39), none, .mov, [.tm 1]⟩,
  ⟨(some 40), none, (.mkfn (.func 65) 0), [.tm 9, .tm 10, .tm 11, .tm 6, .tm 4]⟩,
  ⟨(some 41), none, (.call 63), [.tm 39, .tm 40]⟩,
  ⟨(some 42), none, .not, [.tm 41]⟩,
  ⟨(some 8), none, .mov, [.tm 42]⟩])
 .ret))))) }
theorem v45_is : vfunc Try.prog Try.f45 = some v45 := by kernel_rfl


theorem ans_a2 {k : SV → List HO → Prop} {al : Bool} {hp : List HO} {κ κ' : IntKind} {x y : Int} (h : k (.agg [.int κ x, .int κ' y]) []) : answers al k (.agg [.int κ x, .int κ' y]) hp :=
  ans_le (show k _ [] from h) (le_self (.agg [.int κ x, .int κ' y]) ⟨trivial, trivial, trivial⟩) (fun _ => by simp [freshS, freshL])

def tmC : Ctr := { alias := false, of := fun l => match l with
  | [.int .i64 x, .int .i64 y] => .pre ((0 ≤ x ∧ x ≤ 1000000000000000000) ∧ 0 ≤ y ∧ y ≤ 1000000000000000000) (.fin (.agg [.int .u64 (x * y / 18446744073709551616), .int .u64 (x * y % 18446744073709551616)]) [])
  | _ => noC }
def G0 : Env := { ct := fun n => match n with | 80 => some mul64C | _ => none, fn := fun _ => none, meth := fun _ _ => none }
theorem G0_ct80 : G0.ct 80 = some mul64C := rfl
theorem G0_ok : EnvOk Try.prog G0 := by
  refine ⟨fun f c h => ?_, fun f vf h => ?_, (fun _ _ _ h => by cases h), by kernel_rfl⟩
  · simp only [G0] at h
    split at h
    · cases h; exact ⟨mul64_ok, Try.f80, Try.func80, by kernel_rfl, by kernel_rfl⟩
    · cases h
  · cases h

theorem tm_ok : tmC.ok Try.prog 77 := by
  refine contract Try.func77 v77_is G0_ok 100 tmC fun args k h => ⟨args, ?_⟩
  simp only [tmC] at h
  split at h
  · refine ⟨by simp [leL, le], ?_⟩
    obtain ⟨⟨hx, hy⟩, h⟩ := h
    dsimp only [v77, G0_ct80, mul64C, go_sem, Option.bind, Option.map, List.append_nil, Nat.beq, List.cons_append, List.nil_append, List.append_eq, List.map_cons, List.map_nil, ite_self, reduceIte]
    simp only [true_and, and_true, imp_self, implies_true, decide_eq_true_eq, decide_eq_false_iff_not, Nat.reduceAdd, Nat.reduceLeDiff, Bool.not_not, reduceCtorEq, false_imp_iff, Bool.not_eq_true', Bool.not_eq_false', Bool.false_eq_true, and_self, forall_const, ne_eq, not_false_eq_true, Nat.reduceEqDiff]
    rw [IntWalk.u64_in _ (by omega), IntWalk.u64_in _ (by omega)]
    exact ⟨⟨by omega, by omega⟩, by decide, by decide, by decide, ans_a2 h⟩
  · exact h.1.elim
theorem less_iff {v w M : Int} (hM : 0 < M) : v < w ↔ (v / M < w / M ∨ v / M = w / M ∧ v % M < w % M) := by
  have e1 := Int.mul_ediv_add_emod v M
  have e2 := Int.mul_ediv_add_emod w M
  have a1 := Int.emod_nonneg v (show M ≠ 0 by omega)
  have a2 := Int.emod_nonneg w (show M ≠ 0 by omega)
  have b1 := Int.emod_lt_of_pos v hM
  have b2 := Int.emod_lt_of_pos w hM
  generalize v / M = q at *
  generalize w / M = p at *
  generalize v % M = r at *
  generalize w % M = s at *
  have h1 : q < p → M * q + M ≤ M * p := fun h => by
    have := Int.mul_le_mul_of_nonneg_left (show q + 1 ≤ p by omega) (show 0 ≤ M by omega)
    rw [Int.mul_add, Int.mul_one] at this; exact this
  have h2 : p < q → M * p + M ≤ M * q := fun h => by
    have := Int.mul_le_mul_of_nonneg_left (show p + 1 ≤ q by omega) (show 0 ≤ M by omega)
    rw [Int.mul_add, Int.mul_one] at this; exact this
  have h3 : q = p → M * q = M * p := fun h => by rw [h]
  rcases Int.lt_trichotomy q p with h | h | h
  · have := h1 h
    omega
  · have := h3 h
    omega
  · have := h2 h
    omega
def lessC : Ctr := { alias := false, of := fun l => match l with
  | [.agg [.int .u64 a, .int .u64 b], .agg [.int .u64 c, .int .u64 d]] => .ex Int fun v => .ex Int fun w => .pre ((a = v / 18446744073709551616 ∧ b = v % 18446744073709551616) ∧ c = w / 18446744073709551616 ∧ d = w % 18446744073709551616) (.fin (.bool (decide (v < w))) [])
  | _ => noC }
def G1 : Env := { ct := fun _ => none, fn := fun _ => none, meth := fun _ _ => none }
theorem G1_ok : EnvOk Try.prog G1 := by
  refine ⟨fun f c h => ?_, fun f vf h => ?_, (fun _ _ _ h => by cases h), by kernel_rfl⟩
  · cases h
  · cases h

theorem less_ok : lessC.ok Try.prog 78 := by
  refine contract Try.func78 v78_is G1_ok 100 lessC fun args k h => ⟨args, ?_⟩
  simp only [lessC] at h
  split at h
  · refine ⟨leL_self _ ⟨⟨trivial, trivial, trivial⟩, ⟨trivial, trivial, trivial⟩, trivial⟩, ?_⟩
    obtain ⟨v, w, ⟨⟨rfl, rfl⟩, rfl, rfl⟩, h⟩ := h
    have h : k (.bool (decide (v < w))) [] := h
    dsimp only [v78, go_sem, Option.bind, Option.map, List.append_nil, Nat.beq, List.cons_append, List.nil_append, List.append_eq, List.map_cons, List.map_nil, ite_self, reduceIte]
    simp only [true_and, and_true, imp_self, implies_true, decide_eq_true_eq, decide_eq_false_iff_not, Nat.reduceAdd, Nat.reduceLeDiff, Bool.not_not, reduceCtorEq, false_imp_iff, Bool.not_eq_true', Bool.not_eq_false', Bool.false_eq_true, and_self, forall_const, ne_eq, not_false_eq_true, Nat.reduceEqDiff]
    have e : decide (v < w) = (decide (v / 18446744073709551616 < w / 18446744073709551616) || decide (v / 18446744073709551616 = w / 18446744073709551616) && decide (v % 18446744073709551616 < w % 18446744073709551616)) := by
      rw [Bool.eq_iff_iff, decide_eq_true_eq, Bool.or_eq_true, Bool.and_eq_true, decide_eq_true_eq, decide_eq_true_eq, decide_eq_true_eq]
      exact less_iff (by decide)
    rw [e] at h
    generalize v / 18446744073709551616 = q at *
    generalize w / 18446744073709551616 = p at *
    generalize v % 18446744073709551616 = r at *
    generalize w % 18446744073709551616 = s at *
    refine ⟨fun hb => ?_, fun hb => ⟨by decide, by decide, fun _ => by decide, fun _ => by decide, fun _ => by decide, fun _ => by decide, fun a b => by rw [decide_eq_false a, decide_eq_true b]; rfl, ans_bool h⟩⟩
    simp only [Bool.and_true, Bool.and_eq_true, decide_eq_true_eq] at hb
    rw [decide_eq_false (show ¬ q < p by omega), decide_eq_false (show ¬ r < s by omega), Bool.and_false] at h
    exact ans_bool h
  · exact h.1.elim

def blkC : Ctr := { alias := false, of := fun l => match l with
  | [.int .i64 x, .int .i64 y, .int .i64 u, .int .i64 v, .int .i64 r] => .pre ((midN x ∧ midN y) ∧ (midN u ∧ midN v) ∧ midN (u - x) ∧ midN (v - y) ∧ midN r) (.fin (.bool (blkF x y u v r)) [])
  | _ => noC }
def G2 : Env := { ct := fun n => match n with | 64 => some sqC | 77 => some tmC | 78 => some lessC | _ => none, fn := fun _ => none, meth := fun _ _ => none }
theorem G2_ct64 : G2.ct 64 = some sqC := rfl
theorem G2_ct77 : G2.ct 77 = some tmC := rfl
theorem G2_ct78 : G2.ct 78 = some lessC := rfl
theorem G2_ok : EnvOk Try.prog G2 := by
  refine ⟨fun f c h => ?_, fun f vf h => ?_, (fun _ _ _ h => by cases h), by kernel_rfl⟩
  · simp only [G2] at h
    split at h
    · cases h; exact ⟨sq_ok, Try.f64, Try.func64, by kernel_rfl, by kernel_rfl⟩
    · cases h; exact ⟨tm_ok, Try.f77, Try.func77, by kernel_rfl, by kernel_rfl⟩
    · cases h; exact ⟨less_ok, Try.f78, Try.func78, by kernel_rfl, by kernel_rfl⟩
    · cases h
  · cases h

theorem cross_sq (a b : Int) : max (a - b) (b - a) * max (a - b) (b - a) = (a - b) * (a - b) := by
  rcases Int.le_total (a - b) (b - a) with h | h
  · rw [Int.max_eq_right h, show b - a = -(a - b) by omega, Int.neg_mul_neg]
  · rw [Int.max_eq_left h]
theorem blk_ok : blkC.ok Try.prog 66 := by
  refine contract Try.func66 v66_is G2_ok 200 blkC fun args k h => ⟨args, ?_⟩
  simp only [blkC] at h
  split at h
  · rename_i x y u v r
    refine ⟨by simp [leL, le], ?_⟩
    obtain ⟨⟨⟨hx, hy⟩, ⟨hu, hv⟩, hux, hvy, hr⟩, h⟩ := h
    have h : k (.bool (blkF x y u v r)) [] := h
    unfold blkF at h
    have a1 := mid_mul hx hu
    have a2 := mid_mul hy hv
    have a3 := mid_mul hx hv
    have a4 := mid_mul hy hu
    have a5 := mid_mul hr hr
    obtain ⟨_, s1, s2⟩ := sq_w hx hy
    have r0 := sq0 r
    have ux : IntKind.i64.wrap (u - x) = u - x := mid_w (by have := hux.1; have := hux.2; omega)
    have vy : IntKind.i64.wrap (v - y) = v - y := mid_w (by have := hvy.1; have := hvy.2; omega)
    dsimp only [v66, G2_ct64, G2_ct77, G2_ct78, sqC, tmC, lessC, go_sem, Option.bind, Option.map, List.append_nil, Nat.beq, List.cons_append, List.nil_append, List.append_eq, List.map_cons, List.map_nil, ite_self, reduceIte]
    simp only [true_and, and_true, imp_self, implies_true, decide_eq_true_eq, decide_eq_false_iff_not, Nat.reduceAdd, Nat.reduceLeDiff, Bool.not_not, reduceCtorEq, false_imp_iff, Bool.not_eq_true', Bool.not_eq_false', Bool.false_eq_true, and_self, forall_const, ne_eq, not_false_eq_true, Nat.reduceEqDiff]
    have e0 : IntKind.i64.wrap (IntKind.i64.wrap (x * u) + IntKind.i64.wrap (y * v)) = x * u + y * v := by
      rw [mid_w (x := x * u) (by omega), mid_w (x := y * v) (by omega), mid_w (by omega)]
    have e1 : IntKind.i64.wrap (r * r) = r * r := mid_w (by omega)
    have e2 : max (IntKind.i64.wrap (IntKind.i64.wrap (x * v) - IntKind.i64.wrap (y * u))) (IntKind.i64.wrap (IntKind.i64.wrap (y * u) - IntKind.i64.wrap (x * v))) = max (x * v - y * u) (y * u - x * v) := by
      rw [mid_w (x := x * v) (by omega), mid_w (x := y * u) (by omega), mid_w (x := x * v - y * u) (by omega), mid_w (x := y * u - x * v) (by omega)]
    simp only [e0, e1, e2, ux, vy]
    refine ⟨⟨hx, hy⟩, fun h1 => ⟨⟨hu, hv⟩, ?_⟩, fun h1 => ⟨fun h2 => ⟨⟨hux, hvy⟩, ?_⟩, fun h2 => ⟨⟨by omega, by omega⟩, ⟨⟨by omega, by omega⟩, by omega, by omega⟩, _, _, ⟨⟨rfl, rfl⟩, rfl, rfl⟩, ?_⟩⟩⟩
    · rw [if_pos h1] at h; exact ans_bool h
    · rw [if_neg h1, if_pos h2] at h; exact ans_bool h
    · rw [if_neg h1, if_neg h2] at h
      rw [cross_sq]
      exact ans_bool h
  · exact h.1.elim

theorem leX_junk (x : SV) : leX x .junk := by cases x <;> trivial
def okW (w : Int × Int) : Prop := (-10000000 ≤ w.1 ∧ w.1 ≤ 20000000) ∧ (-10000000 ≤ w.2 ∧ w.2 ≤ 20000000)
def predH (g : Nat) (cap : List SV) (F : Std → Bool) : Prop := g = 65 ∧ ∃ (t1 t2 t3 t4 t5 : Bool) (b : Brd) (p : Std) (w : Int × Int) (wk : SV), cap = [.xp t1 (encS p), .xp t2 [.int .i64 (p.x - w.1)], .xp t3 [.int .i64 (p.y - w.2)], .xp t4 (encT w), .xp t5 [.int .i64 b.w, .int .i64 b.d, .int .i64 b.c, .int .i64 b.a, .int .i64 b.s, wk]] ∧ okB b ∧ okP p ∧ okW w ∧ F = hitF b p w
def hitC : Ctr := { alias := false, of := fun l => match l with
  | [.agg [.int .i64 qx, .int .i64 qy, .int .i64 qr, .int .i64 qh], .xp _ [.int .i64 px, .int .i64 py, .int .i64 pr, .int .i64 ph], .xp _ [.int .i64 x], .xp _ [.int .i64 y], .xp _ [.int .i64 w1, .int .i64 w2], .xp _ [.int .i64 bw, .int .i64 bd, .int .i64 bc, .int .i64 ba, .int .i64 bs, _]] =>
      .ex Brd fun b => .pre (bs = b.s ∧ x = px - w1 ∧ y = py - w2 ∧ okB b ∧ okP ⟨px, py, pr, ph⟩ ∧ okW (w1, w2) ∧ okP ⟨qx, qy, qr, qh⟩) (.fin (.bool (hitF b ⟨px, py, pr, ph⟩ (w1, w2) ⟨qx, qy, qr, qh⟩)) [])
  | _ => noC }
def G3 : Env := { ct := fun n => match n with | 66 => some blkC | _ => none, fn := fun _ => none, meth := fun _ _ => none }
theorem G3_ct66 : G3.ct 66 = some blkC := rfl
theorem G3_ok : EnvOk Try.prog G3 := by
  refine ⟨fun f c h => ?_, fun f vf h => ?_, (fun _ _ _ h => by cases h), by kernel_rfl⟩
  · simp only [G3] at h
    split at h
    · cases h; exact ⟨blk_ok, Try.f66, Try.func66, by kernel_rfl, by kernel_rfl⟩
    · cases h
  · cases h

theorem hit_ok : hitC.ok Try.prog 65 := by
  refine contract Try.func65 v65_is G3_ok 200 hitC fun args k h => ?_
  simp only [hitC] at h
  split at h
  · rename_i qx qy qr qh t1 px py pr ph t2 x t3 y t4 w1 w2 t5 bw bd bc ba bs wk
    obtain ⟨b, ⟨rfl, rfl, rfl, hb, hp, hw, hq⟩, h⟩ := h
    refine ⟨[.agg [.int .i64 qx, .int .i64 qy, .int .i64 qr, .int .i64 qh], .xp t1 [.int .i64 px, .int .i64 py, .int .i64 pr, .int .i64 ph], .xp t2 [.int .i64 (px - w1)], .xp t3 [.int .i64 (py - w2)], .xp t4 [.int .i64 w1, .int .i64 w2], .xp t5 [.int .i64 bw, .int .i64 bd, .int .i64 bc, .int .i64 ba, .int .i64 b.s, .junk]],
      ⟨leXL_le _ _ (leXL_self _) ⟨trivial, trivial, trivial, trivial, trivial⟩, ⟨id, leXL_self _⟩, ⟨id, leXL_self _⟩, ⟨id, leXL_self _⟩, ⟨id, leXL_self _⟩, ⟨id, ⟨rfl, rfl⟩, ⟨rfl, rfl⟩, ⟨rfl, rfl⟩, ⟨rfl, rfl⟩, ⟨rfl, rfl⟩, leX_junk wk, trivial⟩, trivial⟩, ?_⟩
    have h : k (.bool (hitF b ⟨px, py, pr, ph⟩ (w1, w2) ⟨qx, qy, qr, qh⟩)) [] := h
    dsimp only [v65, G3_ct66, blkC, go_sem, Option.bind, Option.map, List.append_nil, Nat.beq, List.cons_append, List.nil_append, List.append_eq, List.map_cons, List.map_nil, ite_self, reduceIte]
    simp only [true_and, and_true, imp_self, implies_true, decide_eq_true_eq, decide_eq_false_iff_not, Nat.reduceAdd, Nat.reduceLeDiff, Bool.not_not, reduceCtorEq, false_imp_iff, Bool.not_eq_true', Bool.not_eq_false', Bool.false_eq_true, and_self, forall_const, ne_eq, not_false_eq_true, Nat.reduceEqDiff]
    obtain ⟨_, _, _, ⟨_, _⟩, _⟩ := hb
    obtain ⟨_, _, ⟨_, _⟩, _, _⟩ := hp
    obtain ⟨⟨_, _⟩, _, _⟩ := hw
    obtain ⟨⟨_, _⟩, _, ⟨_, _⟩, _, _⟩ := hq
    dsimp only at *
    simp only [mid_w (x := qx - w1) (by omega), mid_w (x := qy - w2) (by omega), mid_w (x := qr + b.s) (by omega)]
    exact ⟨fun _ => ⟨⟨⟨by omega, by omega⟩, ⟨by omega, by omega⟩⟩, ⟨⟨by omega, by omega⟩, ⟨by omega, by omega⟩⟩, ⟨by omega, by omega⟩, ⟨by omega, by omega⟩, ⟨by omega, by omega⟩⟩, ans_bool h⟩
  · exact h.1.elim

def anyHC : Ctr := { alias := false, of := fun l => match l with
  | [.vs _ _ n sz get, .fn (.func g) [] cap] => .ex (List Std) fun l => .ex (Std → Bool) fun F => .pre (lsP 4 encS n sz get l ∧ l.length ≤ 1000000000000 ∧ predH g cap F ∧ ∀ p ∈ l, okP p) (.fin (.bool (l.any F)) [])
  | _ => noC }
def G4 : Env := { ct := fun n => match n with | 65 => some hitC | _ => none, fn := fun n => match n with | 76 => some v76 | _ => none, meth := fun _ _ => none }
theorem G4_ct65 : G4.ct 65 = some hitC := rfl
theorem G4_ct76 : G4.ct 76 = none := rfl
theorem G4_fn76 : G4.fn 76 = some v76 := rfl
theorem G4_ok : EnvOk Try.prog G4 := by
  refine ⟨fun f c h => ?_, fun f vf h => ?_, (fun _ _ _ h => by cases h), by kernel_rfl⟩
  · simp only [G4] at h
    split at h
    · cases h; exact ⟨hit_ok, Try.f65, Try.func65, by kernel_rfl, by kernel_rfl⟩
    · cases h
  · simp only [G4] at h
    split at h
    · cases h; exact ⟨Try.f76, Try.func76, v76_is, Try.f76, Try.func76, by kernel_rfl, by kernel_rfl⟩
    · cases h

theorem anyH_ok : anyHC.ok Try.prog 63 := by
  refine contract Try.func63 v63_is G4_ok 100 anyHC fun args k h => ?_
  simp only [anyHC] at h
  split at h
  · rename_i t z n sz get g cap
    obtain ⟨l, F, ⟨⟨rfl, rfl, hg⟩, hl, ⟨rfl, t1, t2, t3, t4, t5, b, p, w, wk, rfl, hb0, hp0, hw0, rfl⟩, hall⟩, h⟩ := h
    refine ⟨[.vs t z l.length 4 (fun k => encS (l.getD k default)), .fn (.func 65) [] [.xp t1 (encS p), .xp t2 [.int .i64 (p.x - w.1)], .xp t3 [.int .i64 (p.y - w.2)], .xp t4 (encT w), .xp t5 [.int .i64 b.w, .int .i64 b.d, .int .i64 b.c, .int .i64 b.a, .int .i64 b.s, wk]]], ⟨by simpa [le] using hg, by simp [le_fn, bndL, bnd], trivial⟩, ?_⟩
    have h : k (.bool (l.any (hitF b p w))) [] := h
    dsimp only [v63, v76, G4_ct76, G4_fn76, encS, encT, go_sem, Option.bind, Option.map, List.append_nil, Nat.beq, List.cons_append, List.nil_append, List.append_eq, List.map_cons, List.map_nil, ite_self, reduceIte]
    simp only [true_and, and_true, imp_self, implies_true, decide_eq_true_eq, decide_eq_false_iff_not, Nat.reduceAdd, Nat.reduceLeDiff, Bool.not_not, reduceCtorEq, false_imp_iff, Bool.not_eq_true', Bool.not_eq_false', Bool.false_eq_true, and_self, forall_const, ne_eq, not_false_eq_true, Nat.reduceEqDiff]
    obtain ⟨F, hF⟩ : ∃ F, F = hitF b p w := ⟨_, rfl⟩
    rw [← hF] at h
    refine Loop.keep [0, 0, 5, 0] Nat (fun i => [(8, .int .i64 i)]) (fun _ => []) [] (fun i => i ≤ l.length ∧ ∀ j, j < i → F (l.getD j default) = false) (fun i => l.length - i) ?_ ?_
    · refine ⟨0, ⟨Nat.zero_le _, fun j h => by omega⟩, ?_⟩
      dsimp only [go_sem, Option.bind, Option.map, List.append_nil, Nat.beq, List.cons_append, List.nil_append, List.append_eq, List.map_cons, List.map_nil, ite_self, reduceIte]
      simp only [leS_mk, leL_cons, leL_nil, le_junk, le_int, le_bool, le_nil, leLL_nil, leLL_cons, leH_cons, leH_nil, leH1_box, leH1_own, leH1_gone, le_vs, le_agg, le_tup, le_ptr, le_own, le_xp, le_fn, le_opt, le_val, le_elem, le_nil_own, le_nil_vs, leH_ghost, leL_chunk, leXL_id, bnd_int, bnd_bool, bnd_val, bnd_nil, bnd_junk, bnd_vs, bnd_xp, bnd_agg, bnd_tup, bnd_ptr, bnd_own, bnd_elem, bnd_fn, bnd_iface, bnd_opt, bndL_nil, bndL_cons, lenH_cons, lenH_nil, imp_self, implies_true, true_and, and_true]
      simp
    · rintro i ⟨hi, ha⟩
      dsimp only [G4_ct65, hitC, encS, encT, Int.toNat_natCast, go_sem, Option.bind, Option.map, List.append_nil, Nat.beq, List.cons_append, List.nil_append, List.append_eq, List.map_cons, List.map_nil, ite_self, reduceIte]
      simp only [true_and, and_true, imp_self, implies_true, decide_eq_true_eq, decide_eq_false_iff_not, Nat.reduceAdd, Nat.reduceLeDiff, Bool.not_not, reduceCtorEq, false_imp_iff, Bool.not_eq_true', Bool.not_eq_false', Bool.false_eq_true, and_self, forall_const, ne_eq, not_false_eq_true, Nat.reduceEqDiff]
      refine ⟨fun hlt => ⟨⟨by omega, hlt⟩, b, ⟨rfl, hb0, hp0, hw0, hall _ (getD_mem (by omega))⟩, ?_⟩, fun hge => ?_⟩
      simp only [show hitF b ⟨p.x, p.y, p.r, p.h⟩ (w.1, w.2) ⟨(l.getD i default).x, (l.getD i default).y, (l.getD i default).r, (l.getD i default).h⟩ = F (l.getD i default) by rw [hF]]
      refine ⟨fun hb => ?_, fun hb => ?_⟩
      · have e : l.any F = true := List.any_eq_true.2 ⟨_, getD_mem (by omega : i < l.length), hb⟩
        have e2 : decide (0 ≤ (i : Int)) = true := decide_eq_true (by omega)
        rw [e2]
        exact ans_bool (by rw [e] at h; exact h)
      · refine ⟨i + 1, ⟨by omega, fun j hj => ?_⟩, by omega, ?_⟩
        · rcases Nat.lt_or_ge j i with h' | h'
          · exact ha j h'
          · obtain rfl : j = i := by omega
            exact hb
        · simp only [w_succ (i := i) (n := l.length) (by omega) (by omega), leS_mk, leL_cons, leL_nil, le_junk, le_int, le_bool, le_nil, leLL_nil, leLL_cons, leH_cons, leH_nil, leH1_box, leH1_own, leH1_gone, le_vs, le_agg, le_tup, le_ptr, le_own, le_xp, le_fn, le_opt, le_val, le_elem, le_nil_own, le_nil_vs, leH_ghost, leL_chunk, leXL_id, bnd_int, bnd_bool, bnd_val, bnd_nil, bnd_junk, bnd_vs, bnd_xp, bnd_agg, bnd_tup, bnd_ptr, bnd_own, bnd_elem, bnd_fn, bnd_iface, bnd_opt, bndL_nil, bndL_cons, lenH_cons, lenH_nil, imp_self, implies_true, true_and, and_true] <;> simp
      · have e : l.any F = false := List.any_eq_false.2 fun x hx => by
          obtain ⟨j, hj, rfl⟩ := mem_getD hx
          rw [ha j (by omega)]; simp
        exact ans_bool (by rw [e] at h; exact h)
  · exact h.1.elim

def rchC : Ctr := { alias := false, of := fun l => match l with
  | [.agg [.int .i64 w, .int .i64 d, .int .i64 c, .int .i64 a, .int .i64 s, .vs _ _ n sz get], .vs _ _ n' sz' get', .agg [.int .i64 w1, .int .i64 w2], .int .i64 i] => .ex Brd fun b => .ex (List Std) fun l => .pre (brdP b w d c a s n sz get ∧ lsP 4 encS n' sz' get' l ∧ okB b ∧ (∀ p ∈ l, okP p) ∧ l.length ≤ 200 ∧ okW (w1, w2) ∧ 0 ≤ i ∧ i < l.length) (.fin (.bool (reachF b l (w1, w2) (l.getD i.toNat default))) [])
  | _ => noC }
def G5 : Env := { ct := fun n => match n with | 64 => some sqC | 63 => some anyHC | _ => none, fn := fun _ => none, meth := fun _ _ => none }
theorem G5_ct64 : G5.ct 64 = some sqC := rfl
theorem G5_ct63 : G5.ct 63 = some anyHC := rfl
theorem G5_ok : EnvOk Try.prog G5 := by
  refine ⟨fun f c h => ?_, fun f vf h => ?_, (fun _ _ _ h => by cases h), by kernel_rfl⟩
  · simp only [G5] at h
    split at h
    · cases h; exact ⟨sq_ok, Try.f64, Try.func64, by kernel_rfl, by kernel_rfl⟩
    · cases h; exact ⟨anyH_ok, Try.f63, Try.func63, by kernel_rfl, by kernel_rfl⟩
    · cases h
  · cases h

theorem rch_ok : rchC.ok Try.prog 45 := by
  refine contract Try.func45 v45_is G5_ok 200 rchC fun args k h => ?_
  simp only [rchC] at h
  split at h
  · rename_i w d c a s t z n sz get t' z' n' sz' get' w1 w2 i
    obtain ⟨b, l, ⟨hbp, ⟨rfl, rfl, hg⟩, hb, hl, hlen, hw, hi1, hi2⟩, h⟩ := h
    refine ⟨[.agg (encB t z b), .vs t' z' l.length 4 (fun k => encS (l.getD k default)), .agg [.int .i64 w1, .int .i64 w2], .int .i64 i], ⟨brd_le hbp, by simpa [le] using hg, leXL_le _ _ (leXL_self _) ⟨trivial, trivial, trivial⟩, ⟨rfl, rfl⟩, trivial⟩, ?_⟩
    obtain ⟨i, rfl⟩ := Int.eq_ofNat_of_zero_le hi1
    have h : k (.bool (reachF b l (w1, w2) (l.getD i default))) [] := h
    dsimp only [v45, G5_ct64, G5_ct63, sqC, anyHC, encB, encT, encS, Int.toNat_natCast, go_sem, Option.bind, Option.map, List.append_nil, Nat.beq, List.cons_append, List.nil_append, List.append_eq, List.map_cons, List.map_nil, ite_self, reduceIte]
    simp only [true_and, and_true, imp_self, implies_true, decide_eq_true_eq, decide_eq_false_iff_not, Nat.reduceAdd, Nat.reduceLeDiff, Bool.not_not, reduceCtorEq, false_imp_iff, Bool.not_eq_true', Bool.not_eq_false', Bool.false_eq_true, and_self, forall_const, ne_eq, not_false_eq_true, Nat.reduceEqDiff]
    have hp : okP (l.getD i default) := hl _ (getD_mem (by omega))
    have hb' := hb
    have hp' := hp
    have hw' := hw
    obtain ⟨_, _, _, ⟨_, _⟩, ⟨_, _⟩, _⟩ := hb'
    obtain ⟨⟨_, _⟩, _, ⟨_, _⟩, _, _⟩ := hp'
    obtain ⟨⟨_, _⟩, _, _⟩ := hw'
    unfold reachF at h
    generalize hpe : l.getD i default = p at *
    dsimp only at *
    have m : midN (b.a + p.r) := ⟨by omega, by omega⟩
    have e := mid_mul m m
    simp only [mid_w (x := p.x - w1) (by omega), mid_w (x := p.y - w2) (by omega), mid_w (x := b.a + p.r) (by omega), mid_w (x := (b.a + p.r) * (b.a + p.r)) (by omega)]
    refine ⟨⟨by omega, by omega⟩, ⟨⟨by omega, by omega⟩, ⟨by omega, by omega⟩⟩, fun hc => ?_, fun hc => ⟨l, hitF b p (w1, w2), ⟨lsP_self, by omega, ⟨rfl, _, _, _, _, _, b, p, (w1, w2), _, rfl, hb, hp, hw, rfl⟩, hl⟩, ?_⟩⟩
    · rw [decide_eq_true hc] at h; exact ans_bool h
    · rw [decide_eq_false hc] at h; exact ans_bool h
  · exact h.1.elim
end Go.Proofs.Ytojaibhjfeojjaa

/- Layouts, walked: Reach, Blocked, Accept. -/
set_option linter.all false
namespace Go.Proofs.Ytojaibhjfeojjaa
open Go Go.Vx
set_option maxRecDepth 100000
set_option maxHeartbeats 4000000

def v17 : VF := { ntmps := 45, res := [.tmp 6, .tmp 7], body :=
 (.seq (.region [⟨(some 3), none, .box, [.tm 0]⟩,
  ⟨(some 6), none, .mov, [.cn .nil]⟩,
  ⟨(some 7), none, .mov, [.cn (.int .i64 0)]⟩])
 (.seq (.seq (.region [⟨(some 12), none, (.load true 6), [.tm 3]⟩,
  ⟨(some 13), none, .mov, [.tm 1]⟩,
  ⟨(some 14), none, (.call 44), [.tm 12, .tm 13]⟩,
  ⟨(some 8), none, .mov, [.tm 14]⟩])
 (.seq (.region [⟨(some 15), none, .mov, [.tm 8]⟩,
  ⟨(some 16), none, (.cmp .neq), [.tm 15, .cn (.int .i64 0)]⟩])
 (.cond (.tm 16) (.seq (.region [⟨(some 17), none, .mov, [.tm 8]⟩,
  ⟨(some 6), none, .mov, [.cn .nil]⟩,
  ⟨(some 7), none, .mov, [.tm 17]⟩])
 .ret)
  .skip)))
 (.seq (.seq (.region [⟨(some 18), none, .mov, [.tm 2]⟩,
  ⟨(some 19), none, (.cmp .lss), [.tm 18, .cn (.int .i64 0)]⟩,
  ⟨(some 20), none, .mov, [.tm 19]⟩,
  ⟨(some 21), (some (20, false)), .mov, [.tm 2]⟩,
  ⟨(some 22), (some (20, false)), .mov, [.tm 1]⟩,
  ⟨(some 23), (some (20, false)), .len, [.tm 22]⟩,
  ⟨(some 24), (some (20, false)), (.cmp .geq), [.tm 21, .tm 23]⟩,
  ⟨(some 25), none, .or, [.tm 20, .tm 24]⟩])
 (.cond (.tm 25) (.seq (.region [⟨(some 6), none, .mov, [.cn .nil]⟩,
  ⟨(some 7), none, .mov, [.cn (.int .i64 4)]⟩])
 .ret)
  .skip))
 (.seq (.region [⟨(some 9), none, .mov, [.cn .nil]⟩])
 (.seq (.seq (.region [⟨(some 26), none, (.fieldAddr 5), [.tm 3]⟩,
  ⟨(some 27), none, (.load false 1), [.tm 26]⟩,
  ⟨(some 28), none, .len, [.tm 27]⟩,
  ⟨(some 29), none, .mov, [.cn (.int .i64 0)]⟩])
 (.block 0 (.loop (.seq (.region [⟨(some 30), none, (.cmp .lss), [.tm 29, .tm 28]⟩])
 (.seq (.cond (.tm 30) .skip
  (.exit 0))
 (.seq (.block 1 (.seq (.region [⟨(some 31), none, .mov, [.tm 29]⟩,
  ⟨(some 32), none, (.idxAddr 2), [.tm 27, .tm 29]⟩,
  ⟨(some 33), none, (.load true 2), [.tm 32]⟩,
  ⟨(some 11), none, (.alloc [(.int .i64 0), (.int .i64 0)]), []⟩,
  ⟨(some 10), none, .mov, [.tm 31]⟩,
  ⟨none, none, (.store 2), [.tm 11, .tm 33]⟩])
 (.seq (.region [⟨(some 34), none, (.load true 6), [.tm 3]⟩,
  ⟨(some 35), none, .mov, [.tm 1]⟩,
  ⟨(some 36), none, (.load true 2), [.tm 11]⟩,
  ⟨(some 37), none, .mov, [.tm 2]⟩,
  ⟨(some 38), none, (.call 45), [.tm 34, .tm 35, .tm 36, .tm 37]⟩])
 (.cond (.tm 38) (.region [⟨(some 39), none, .mov, [.tm 9]⟩,
  ⟨(some 40), none, .mov, [.tm 10]⟩,
  ⟨(some 41), none, (.buildSlice 1 1 [(.int .i64 0)] [(0, 1)]), [.tm 40]⟩,
  ⟨(some 42), none, (.append 1 8 [(.int .i64 0)]), [.tm 39, .tm 41]⟩,
  ⟨(some 9), none, .mov, [.tm 42]⟩])
  .skip))))
 (.region [⟨(some 43), none, (.ari .add), [.tm 29, .cn (.int .i64 1)]⟩,
  ⟨(some 29), none, .mov, [.tm 43]⟩])))))))
 (.seq (.region [⟨(some 44), none, .mov, [.tm 9]⟩,
  ⟨(some 6), none, .mov, [.tm 44]⟩,
  ⟨(some 7), none, .mov, [.cn (.int .i64 0)]⟩])
 .ret)))))) }
theorem v17_is : vfunc Try.prog Try.f17 = some v17 := by kernel_rfl
def v68 : VF := { ntmps := 11, res := [.tmp 5], body :=
 (.seq (.region [⟨(some 4), none, .box, [.tm 0]⟩,
  ⟨(some 5), none, .mov, [.cn (.bool false)]⟩])
 (.seq (.region [⟨(some 6), none, (.load true 6), [.tm 1]⟩,
  ⟨(some 7), none, (.load false 1), [.tm 2]⟩,
  ⟨(some 8), none, (.load true 2), [.tm 4]⟩,
  ⟨(some 9), none, (.load false 1), [.tm 3]⟩,
  ⟨(some 10), none, (.call 45), [.tm 6, .tm 7, .tm 8, .tm 9]⟩,
  ⟨(some 5), none, .mov, [.tm 10]⟩])
 .ret)) }
theorem v68_is : vfunc Try.prog Try.f68 = some v68 := by kernel_rfl
def v48 : VF := { ntmps := 23, res := [.tmp 4], body :=
 (.seq (.region [⟨(some 2), none, .box, [.tm 0]⟩,
  ⟨(some 3), none, .box, [.tm 1]⟩,
  ⟨(some 4), none, .mov, [.cn .nil]⟩])
 (.seq (.region [⟨(some 5), none, .mov, [.cn .nil]⟩])
 (.seq (.seq (.region [⟨(some 7), none, (.load false 1), [.tm 3]⟩,
  ⟨(some 8), none, .len, [.tm 7]⟩,
  ⟨(some 9), none, .mov, [.cn (.int .i64 0)]⟩])
 (.block 0 (.loop (.seq (.region [⟨(some 10), none, (.cmp .lss), [.tm 9, .tm 8]⟩])
 (.seq (.cond (.tm 10) .skip
  (.exit 0))
 (.seq (.block 1 (.seq (.region [⟨(some 11), none, .mov, [.tm 9]⟩,
  ⟨(some 6), none, (.alloc [(.int .i64 0)]), []⟩,
  ⟨none, none, (.store 1), [.tm 6, .tm 11]⟩])
 (.seq (.region [⟨(some 12), none, (.fieldAddr 5), [.tm 2]⟩,
  ⟨(some 13), none, (.load false 1), [.tm 12]⟩,
  ⟨(some 14), none, (.mkfn (.func 68) 0), [.tm 2, .tm 3, .tm 6]⟩,
  ⟨(some 15), none, (.call 58), [.tm 13, .tm 14]⟩,
  ⟨(some 16), none, .not, [.tm 15]⟩])
 (.cond (.tm 16) (.region [⟨(some 17), none, .mov, [.tm 5]⟩,
  ⟨(some 18), none, (.load false 1), [.tm 6]⟩,
  ⟨(some 19), none, (.buildSlice 1 1 [(.int .i64 0)] [(0, 1)]), [.tm 18]⟩,
  ⟨(some 20), none, (.append 1 8 [(.int .i64 0)]), [.tm 17, .tm 19]⟩,
  ⟨(some 5), none, .mov, [.tm 20]⟩])
  .skip))))
 (.region [⟨(some 21), none, (.ari .add), [.tm 9, .cn (.int .i64 1)]⟩,
  ⟨(some 9), none, .mov, [.tm 21]⟩])))))))
 (.seq (.region [⟨(some 22), none, .mov, [.tm 5]⟩,
  ⟨(some 4), none, .mov, [.tm 22]⟩])
 .ret)))) }
theorem v48_is : vfunc Try.prog Try.f48 = some v48 := by kernel_rfl
def v22 : VF := { ntmps := 16, res := [.tmp 4, .tmp 5], body :=
 (.seq (.region [⟨(some 2), none, .box, [.tm 0]⟩,
  ⟨(some 4), none, .mov, [.cn .nil]⟩,
  ⟨(some 5), none, .mov, [.cn (.int .i64 0)]⟩])
 (.seq (.seq (.region [⟨(some 7), none, (.load true 6), [.tm 2]⟩,
  ⟨(some 8), none, .mov, [.tm 1]⟩,
  ⟨(some 9), none, (.call 44), [.tm 7, .tm 8]⟩,
  ⟨(some 6), none, .mov, [.tm 9]⟩])
 (.seq (.region [⟨(some 10), none, .mov, [.tm 6]⟩,
  ⟨(some 11), none, (.cmp .neq), [.tm 10, .cn (.int .i64 0)]⟩])
 (.cond (.tm 11) (.seq (.region [⟨(some 12), none, .mov, [.tm 6]⟩,
  ⟨(some 4), none, .mov, [.cn .nil]⟩,
  ⟨(some 5), none, .mov, [.tm 12]⟩])
 .ret)
  .skip)))
 (.seq (.region [⟨(some 13), none, (.load true 6), [.tm 2]⟩,
  ⟨(some 14), none, .mov, [.tm 1]⟩,
  ⟨(some 15), none, (.call 48), [.tm 13, .tm 14]⟩,
  ⟨(some 4), none, .mov, [.tm 15]⟩,
  ⟨(some 5), none, .mov, [.cn (.int .i64 0)]⟩])
 .ret))) }
theorem v22_is : vfunc Try.prog Try.f22 = some v22 := by kernel_rfl
def v27 : VF := { ntmps := 24, res := [.tmp 4, .tmp 5], body :=
 (.seq (.region [⟨(some 2), none, .box, [.tm 0]⟩,
  ⟨(some 4), none, .mov, [.cn (.bool false)]⟩,
  ⟨(some 5), none, .mov, [.cn (.int .i64 0)]⟩])
 (.seq (.seq (.region [⟨(some 7), none, (.load true 6), [.tm 2]⟩,
  ⟨(some 8), none, .mov, [.tm 1]⟩,
  ⟨(some 9), none, (.call 44), [.tm 7, .tm 8]⟩,
  ⟨(some 6), none, .mov, [.tm 9]⟩])
 (.seq (.region [⟨(some 10), none, .mov, [.tm 6]⟩,
  ⟨(some 11), none, (.cmp .neq), [.tm 10, .cn (.int .i64 0)]⟩])
 (.cond (.tm 11) (.seq (.region [⟨(some 12), none, .mov, [.tm 6]⟩,
  ⟨(some 4), none, .mov, [.cn (.bool false)]⟩,
  ⟨(some 5), none, .mov, [.tm 12]⟩])
 .ret)
  .skip)))
 (.seq (.region [⟨(some 13), none, (.load true 6), [.tm 2]⟩,
  ⟨(some 14), none, .mov, [.tm 1]⟩,
  ⟨(some 15), none, (.call 49), [.tm 13, .tm 14]⟩,
  ⟨(some 16), none, (.cmp .eql), [.tm 15, .cn (.int .i64 0)]⟩,
  ⟨(some 17), none, .mov, [.tm 16]⟩,
  ⟨(some 18), (some (17, true)), (.load true 6), [.tm 2]⟩,
  ⟨(some 19), (some (17, true)), .mov, [.tm 1]⟩,
  ⟨(some 20), (some (17, true)), (.call 48), [.tm 18, .tm 19]⟩,
  ⟨(some 21), (some (17, true)), .len, [.tm 20]⟩,
  ⟨(some 22), (some (17, true)), (.cmp .eql), [.tm 21, .cn (.int .i64 0)]⟩,
  ⟨(some 23), none, .and, [.tm 17, .tm 22]⟩,
  ⟨(some 4), none, .mov, [.tm 23]⟩,
  ⟨(some 5), none, .mov, [.cn (.int .i64 0)]⟩])
 .ret))) }
theorem v27_is : vfunc Try.prog Try.f27 = some v27 := by kernel_rfl


def encI (n : Nat) : List SV := [.int .i64 n]
/-- A list of numbers that a function made. -/
def lsR (l : List Nat) : SV := .vs true (decide (l.length = 0)) l.length 1 (fun k => encI (l.getD k default))
theorem ans_lin {k : SV → List HO → Prop} {al : Bool} {hp : List HO} {e : Int} (h : k (.tup [lsR [], .int .i64 e]) []) : answers al k (.tup [.nil, .int .i64 e]) hp :=
  ans_le h (by simp [expo, view, viewL, lsR, le, leL]) (fun _ => by simp [lsR, freshS, freshL])
theorem getD_app {α : Type} [Inhabited α] {l : List α} {x : α} {k : Nat} : (l ++ [x]).getD k default = if k < l.length then l.getD k default else if k = l.length then x else default := by
  rw [List.getD_eq_getElem?_getD, List.getElem?_append]
  split
  · rfl
  · split
    · rename_i h1 h2; subst h2; simp
    · rename_i h1 h2
      have : ¬ k - l.length = 0 := by omega
      simp [this]
/-- What is there below i. -/
def part (F : Nat → Bool) (i : Nat) : List Nat := (List.range i).filter F
theorem part_t {F : Nat → Bool} {i : Nat} (h : F i = true) : part F (i + 1) = part F i ++ [i] := by simp [part, List.range_succ, h]
theorem part_f {F : Nat → Bool} {i : Nat} (h : F i = false) : part F (i + 1) = part F i := by simp [part, List.range_succ, h]
theorem part_le (F : Nat → Bool) (i : Nat) : (part F i).length ≤ i := by
  have := List.length_filter_le F (List.range i)
  rw [List.length_range] at this; exact this

def reaC : Ctr := { alias := false, of := fun l => match l with
  | [.agg [.int .i64 w, .int .i64 d, .int .i64 c, .int .i64 a, .int .i64 s, .vs _ _ n sz get], .vs _ _ n' sz' get', .int .i64 i] => .ex Brd fun b => .ex (List Std) fun l => .pre (brdP b w d c a s n sz get ∧ lsP 4 encS n' sz' get' l ∧ l.length ≤ 1000000000000) (.fin (.tup [lsR (reachR b l i).1, .int .i64 (reachR b l i).2]) [])
  | _ => noC }
def H0 : Env := { ct := fun n => match n with | 44 => some chC | 45 => some rchC | _ => none, fn := fun _ => none, meth := fun _ _ => none }
theorem H0_ct44 : H0.ct 44 = some chC := rfl
theorem H0_ct45 : H0.ct 45 = some rchC := rfl
theorem H0_ok : EnvOk Try.prog H0 := by
  refine ⟨fun f c h => ?_, fun f vf h => ?_, (fun _ _ _ h => by cases h), by kernel_rfl⟩
  · simp only [H0] at h
    split at h
    · cases h; exact ⟨ch_ok, Try.f44, Try.func44, by kernel_rfl, by kernel_rfl⟩
    · cases h; exact ⟨rch_ok, Try.f45, Try.func45, by kernel_rfl, by kernel_rfl⟩
    · cases h
  · cases h

theorem okB_wk {b : Brd} (hb : okB b) {k : Nat} (h : k < b.wk.length) : okW (b.wk.getD k default) := hb.2.2.2.2.2.2 _ (getD_mem h)
theorem rea_ok : reaC.ok Try.prog 17 := by
  refine contract Try.func17 v17_is H0_ok 300 reaC fun args k h => ?_
  simp only [reaC] at h
  split at h
  · rename_i w d c a s t z n sz get t' z' n' sz' get' i
    obtain ⟨b, l, ⟨hbp, ⟨rfl, rfl, hg⟩, hbig⟩, h⟩ := h
    refine ⟨[.agg (encB t z b), .vs t' z' l.length 4 (fun k => encS (l.getD k default)), .int .i64 i], ⟨brd_le hbp, by simpa [le] using hg, ⟨rfl, rfl⟩, trivial⟩, ?_⟩
    have h : k (.tup [lsR (reachR b l i).1, .int .i64 (reachR b l i).2]) [] := h
    dsimp only [v17, H0_ct44, chC, encB, encT, encS, go_sem, Option.bind, Option.map, List.append_nil, Nat.beq, List.cons_append, List.nil_append, List.append_eq, List.map_cons, List.map_nil, ite_self, reduceIte]
    simp only [true_and, and_true, imp_self, implies_true, decide_eq_true_eq, decide_eq_false_iff_not, Nat.reduceAdd, Nat.reduceLeDiff, Bool.not_not, reduceCtorEq, false_imp_iff, Bool.not_eq_true', Bool.not_eq_false', Bool.false_eq_true, and_self, forall_const, ne_eq, not_false_eq_true, Nat.reduceEqDiff]
    unfold reachR at h
    refine ⟨b, l, ⟨brdP_self b, lsP_self⟩, fun hc => ?_, fun hc => ⟨fun hi => ?_, fun hi => ?_⟩⟩
    · rw [if_pos hc] at h; exact ans_lin h
    · simp only [Bool.or_eq_true, decide_eq_true_eq] at hi
      rw [if_neg (by omega), if_pos hi] at h; exact ans_lin h
    · simp only [Bool.or_eq_false_iff, decide_eq_false_iff_not] at hi
      rw [if_neg (by omega), if_neg (by omega)] at h
      obtain ⟨hb, hl, hlen⟩ := chkF_ok hc
      obtain ⟨i, rfl⟩ := Int.eq_ofNat_of_zero_le (show 0 ≤ i by omega)
      simp only [Int.toNat_natCast] at h
      obtain ⟨F, hF⟩ : ∃ F, F = fun k => reachF b l (b.wk.getD k default) (l.getD i default) := ⟨_, rfl⟩
      have hR : reachL b l (l.getD i default) = part F b.wk.length := by rw [hF]; rfl
      rw [hR] at h
      have h8 := hb.2.2.2.2.2.1
      refine Loop.keep [1, 0, 0, 5, 17, 0, 0] Nat (fun j => [(9, .own 1 0 (part F j).length 1), (29, .int .i64 j)]) (fun j => [(1, .own (decide ((part F j).length = 0)) 1 (part F j).length (fun k => encI ((part F j).getD k default)))]) [.gone] (fun j => j ≤ b.wk.length) (fun j => b.wk.length - j) ?_ ?_
      · refine ⟨0, Nat.zero_le _, ?_⟩
        dsimp only [go_sem, Option.bind, Option.map, List.append_nil, Nat.beq, List.cons_append, List.nil_append, List.append_eq, List.map_cons, List.map_nil, ite_self, reduceIte]
        simp only [leS_mk, leL_cons, leL_nil, le_junk, le_int, le_bool, le_nil, leLL_nil, leLL_cons, leH_cons, leH_nil, leH1_box, leH1_own, leH1_gone, le_vs, le_agg, le_tup, le_ptr, le_own, le_xp, le_fn, le_opt, le_val, le_elem, le_nil_own, le_nil_vs, leH_ghost, leL_chunk, leXL_id, bnd_int, bnd_bool, bnd_val, bnd_nil, bnd_junk, bnd_vs, bnd_xp, bnd_agg, bnd_tup, bnd_ptr, bnd_own, bnd_elem, bnd_fn, bnd_iface, bnd_opt, bndL_nil, bndL_cons, lenH_cons, lenH_nil, imp_self, implies_true, true_and, and_true]
        simp [part]
      · rintro j hj
        dsimp only [H0_ct45, rchC, encT, encS, encI, Int.toNat_natCast, go_sem, Option.bind, Option.map, List.append_nil, Nat.beq, List.cons_append, List.nil_append, List.append_eq, List.map_cons, List.map_nil, ite_self, reduceIte]
        simp only [true_and, and_true, imp_self, implies_true, decide_eq_true_eq, decide_eq_false_iff_not, Nat.reduceAdd, Nat.reduceLeDiff, Bool.not_not, reduceCtorEq, false_imp_iff, Bool.not_eq_true', Bool.not_eq_false', Bool.false_eq_true, and_self, forall_const, ne_eq, not_false_eq_true, Nat.reduceEqDiff]
        refine ⟨fun hlt => ?_, fun hge => ?_⟩
        · refine ⟨⟨by omega, by omega⟩, b, l, ⟨brdP_self b, lsP_self, hb, hl, hlen, okB_wk hb (by omega), by omega, by omega⟩, fun ht => ?_, fun ht => ?_⟩
          · have hFj : F j = true := by rw [hF]; exact ht
            have hpl := part_le F j
            refine ⟨by decide, ⟨by unfold capOk; omega, fun q hq => match q, hq with | 0, _ => ⟨rfl, trivial, trivial⟩⟩, j + 1, by omega, by omega, ?_⟩
            rw [part_t hFj]
            simp only [List.length_append, List.length_singleton, getD_app, w_succ (i := j) (n := 1000000000000) (by omega) (by omega), leS_mk, leL_cons, leL_nil, le_junk, le_int, le_bool, le_nil, leLL_nil, leLL_cons, leH_cons, leH_nil, leH1_box, leH1_own, leH1_gone, le_vs, le_agg, le_tup, le_ptr, le_own, le_xp, le_fn, le_opt, le_val, le_elem, le_nil_own, le_nil_vs, leH_ghost, leL_chunk, leXL_id, bnd_int, bnd_bool, bnd_val, bnd_nil, bnd_junk, bnd_vs, bnd_xp, bnd_agg, bnd_tup, bnd_ptr, bnd_own, bnd_elem, bnd_fn, bnd_iface, bnd_opt, bndL_nil, bndL_cons, lenH_cons, lenH_nil, imp_self, implies_true, true_and, and_true]
            refine ⟨by omega, by simp, fun q hq => ?_⟩
            rcases Nat.lt_or_ge q (part F j).length with h' | h'
            · rw [if_pos h', if_pos h']; exact leL_self [.int _ _] ⟨trivial, trivial⟩
            · obtain rfl : q = (part F j).length := by omega
              rw [if_neg (by omega), if_neg (by omega), if_pos rfl, Nat.sub_self]
              exact leL_self [.int _ _] ⟨trivial, trivial⟩
          · have hFj : F j = false := by rw [hF]; exact ht
            refine ⟨j + 1, by omega, by omega, ?_⟩
            rw [part_f hFj]
            simp only [w_succ (i := j) (n := 1000000000000) (by omega) (by omega), leS_mk, leL_cons, leL_nil, le_junk, le_int, le_bool, le_nil, leLL_nil, leLL_cons, leH_cons, leH_nil, leH1_box, leH1_own, leH1_gone, le_vs, le_agg, le_tup, le_ptr, le_own, le_xp, le_fn, le_opt, le_val, le_elem, le_nil_own, le_nil_vs, leH_ghost, leL_chunk, leXL_id, bnd_int, bnd_bool, bnd_val, bnd_nil, bnd_junk, bnd_vs, bnd_xp, bnd_agg, bnd_tup, bnd_ptr, bnd_own, bnd_elem, bnd_fn, bnd_iface, bnd_opt, bndL_nil, bndL_cons, lenH_cons, lenH_nil, imp_self, implies_true, true_and, and_true]
            omega
        · obtain rfl : j = b.wk.length := by omega
          refine ans_le (show k _ [] from h) ?_ ?_
          · dsimp only [lsR, expo, encI, go_sem, Option.bind, Option.map, List.append_nil, Nat.beq, List.cons_append, List.nil_append, List.append_eq, List.map_cons, List.map_nil, ite_self, reduceIte]
            simp only [leS_mk, leL_cons, leL_nil, le_junk, le_int, le_bool, le_nil, leLL_nil, leLL_cons, leH_cons, leH_nil, leH1_box, leH1_own, leH1_gone, le_vs, le_agg, le_tup, le_ptr, le_own, le_xp, le_fn, le_opt, le_val, le_elem, le_nil_own, le_nil_vs, leH_ghost, leL_chunk, leXL_id, bnd_int, bnd_bool, bnd_val, bnd_nil, bnd_junk, bnd_vs, bnd_xp, bnd_agg, bnd_tup, bnd_ptr, bnd_own, bnd_elem, bnd_fn, bnd_iface, bnd_opt, bndL_nil, bndL_cons, lenH_cons, lenH_nil, imp_self, implies_true, true_and, and_true]
          · intro _; simp [freshS, freshL, encI, lsR]
  · exact h.1.elim

/-! ### Pipes that are reached from nowhere -/

def predW (g : Nat) (cap : List SV) (F : Int × Int → Bool) : Prop := g = 68 ∧ ∃ (t1 t2 t3 t4 z4 t5 z5 : Bool) (b : Brd) (l : List Std) (i : Nat), cap = [.xp t1 (encB t4 z4 b), .xp t2 [.vs t5 z5 l.length 4 (fun k => encS (l.getD k default))], .xp t3 [.int .i64 i]] ∧ okB b ∧ (∀ p ∈ l, okP p) ∧ l.length ≤ 200 ∧ i < l.length ∧ F = fun w => reachF b l w (l.getD i default)
def blwC : Ctr := { alias := false, of := fun l => match l with
  | [.agg [.int .i64 w1, .int .i64 w2], .xp _ [.int .i64 w, .int .i64 d, .int .i64 c, .int .i64 a, .int .i64 s, .vs _ _ n sz get], .xp _ [.vs _ _ n' sz' get'], .xp _ [.int .i64 i]] => .ex Brd fun b => .ex (List Std) fun l => .pre (brdP b w d c a s n sz get ∧ lsP 4 encS n' sz' get' l ∧ okB b ∧ (∀ p ∈ l, okP p) ∧ l.length ≤ 200 ∧ okW (w1, w2) ∧ 0 ≤ i ∧ i < l.length) (.fin (.bool (reachF b l (w1, w2) (l.getD i.toNat default))) [])
  | _ => noC }
def H1 : Env := { ct := fun n => match n with | 45 => some rchC | _ => none, fn := fun _ => none, meth := fun _ _ => none }
theorem H1_ct45 : H1.ct 45 = some rchC := rfl
theorem H1_ok : EnvOk Try.prog H1 := by
  refine ⟨fun f c h => ?_, fun f vf h => ?_, (fun _ _ _ h => by cases h), by kernel_rfl⟩
  · simp only [H1] at h
    split at h
    · cases h; exact ⟨rch_ok, Try.f45, Try.func45, by kernel_rfl, by kernel_rfl⟩
    · cases h
  · cases h

theorem blw_ok : blwC.ok Try.prog 68 := by
  refine contract Try.func68 v68_is H1_ok 200 blwC fun args k h => ?_
  simp only [blwC] at h
  split at h
  · rename_i w1 w2 t1 w d c a s t z n sz get t2 t' z' n' sz' get' t3 i
    obtain ⟨b, l, ⟨hbp, ⟨rfl, rfl, hg⟩, hb, hl, hlen, hw, hi1, hi2⟩, h⟩ := h
    refine ⟨[.agg [.int .i64 w1, .int .i64 w2], .xp t1 (encB t z b), .xp t2 [.vs t' z' l.length 4 (fun k => encS (l.getD k default))], .xp t3 [.int .i64 i]], ⟨leXL_le _ _ (leXL_self _) ⟨trivial, trivial, trivial⟩, ⟨id, ?_⟩, ⟨id, ⟨id, rfl, rfl, rfl, hg⟩, trivial⟩, ⟨id, ⟨rfl, rfl⟩, trivial⟩, trivial⟩, ?_⟩
    · obtain ⟨⟨rfl, rfl, rfl, rfl, rfl⟩, rfl, rfl, hg2⟩ := hbp
      exact ⟨⟨rfl, rfl⟩, ⟨rfl, rfl⟩, ⟨rfl, rfl⟩, ⟨rfl, rfl⟩, ⟨rfl, rfl⟩, ⟨id, rfl, rfl, rfl, hg2⟩, trivial⟩
    · obtain ⟨i, rfl⟩ := Int.eq_ofNat_of_zero_le hi1
      have h : k (.bool (reachF b l (w1, w2) (l.getD i default))) [] := h
      dsimp only [v68, H1_ct45, rchC, encB, encT, encS, Int.toNat_natCast, go_sem, Option.bind, Option.map, List.append_nil, Nat.beq, List.cons_append, List.nil_append, List.append_eq, List.map_cons, List.map_nil, ite_self, reduceIte]
      simp only [true_and, and_true, imp_self, implies_true, decide_eq_true_eq, decide_eq_false_iff_not, Nat.reduceAdd, Nat.reduceLeDiff, Bool.not_not, reduceCtorEq, false_imp_iff, Bool.not_eq_true', Bool.not_eq_false', Bool.false_eq_true, and_self, forall_const, ne_eq, not_false_eq_true, Nat.reduceEqDiff]
      exact ⟨b, l, ⟨brdP_self b, lsP_self, hb, hl, hlen, hw, by omega, by omega⟩, ans_bool h⟩
  · exact h.1.elim

def anyWC : Ctr := { alias := false, of := fun l => match l with
  | [.vs _ _ n sz get, .fn (.func g) [] cap] => .ex (List (Int × Int)) fun l => .ex (Int × Int → Bool) fun F => .pre (lsP 2 encT n sz get l ∧ l.length ≤ 1000000000000 ∧ predW g cap F ∧ ∀ w ∈ l, okW w) (.fin (.bool (l.any F)) [])
  | _ => noC }
def H2 : Env := { ct := fun n => match n with | 68 => some blwC | _ => none, fn := fun n => match n with | 75 => some v75 | _ => none, meth := fun _ _ => none }
theorem H2_ct68 : H2.ct 68 = some blwC := rfl
theorem H2_ct75 : H2.ct 75 = none := rfl
theorem H2_fn75 : H2.fn 75 = some v75 := rfl
theorem H2_ok : EnvOk Try.prog H2 := by
  refine ⟨fun f c h => ?_, fun f vf h => ?_, (fun _ _ _ h => by cases h), by kernel_rfl⟩
  · simp only [H2] at h
    split at h
    · cases h; exact ⟨blw_ok, Try.f68, Try.func68, by kernel_rfl, by kernel_rfl⟩
    · cases h
  · simp only [H2] at h
    split at h
    · cases h; exact ⟨Try.f75, Try.func75, v75_is, Try.f75, Try.func75, by kernel_rfl, by kernel_rfl⟩
    · cases h

theorem anyW_ok : anyWC.ok Try.prog 58 := by
  refine contract Try.func58 v58_is H2_ok 100 anyWC fun args k h => ?_
  simp only [anyWC] at h
  split at h
  · rename_i t z n sz get g cap
    obtain ⟨l, F, ⟨⟨rfl, rfl, hg⟩, hl, ⟨rfl, t1, t2, t3, t4, z4, t5, z5, b, ls, m, rfl, hb0, hl0, hlen, hm, rfl⟩, hall⟩, h⟩ := h
    refine ⟨[.vs t z l.length 2 (fun k => encT (l.getD k default)), .fn (.func 68) [] [.xp t1 (encB t4 z4 b), .xp t2 [.vs t5 z5 ls.length 4 (fun k => encS (ls.getD k default))], .xp t3 [.int .i64 m]]], ⟨by simpa [le] using hg, by simp [le_fn, bndL, bnd], trivial⟩, ?_⟩
    have h : k (.bool (l.any (fun w => reachF b ls w (ls.getD m default)))) [] := h
    dsimp only [v58, v75, H2_ct75, H2_fn75, encB, encS, encT, go_sem, Option.bind, Option.map, List.append_nil, Nat.beq, List.cons_append, List.nil_append, List.append_eq, List.map_cons, List.map_nil, ite_self, reduceIte]
    simp only [true_and, and_true, imp_self, implies_true, decide_eq_true_eq, decide_eq_false_iff_not, Nat.reduceAdd, Nat.reduceLeDiff, Bool.not_not, reduceCtorEq, false_imp_iff, Bool.not_eq_true', Bool.not_eq_false', Bool.false_eq_true, and_self, forall_const, ne_eq, not_false_eq_true, Nat.reduceEqDiff]
    obtain ⟨F, hF⟩ : ∃ F, F = fun w => reachF b ls w (ls.getD m default) := ⟨_, rfl⟩
    rw [← hF] at h
    refine Loop.keep [0, 0, 5, 0] Nat (fun i => [(8, .int .i64 i)]) (fun _ => []) [] (fun i => i ≤ l.length ∧ ∀ j, j < i → F (l.getD j default) = false) (fun i => l.length - i) ?_ ?_
    · refine ⟨0, ⟨Nat.zero_le _, fun j h => by omega⟩, ?_⟩
      dsimp only [go_sem, Option.bind, Option.map, List.append_nil, Nat.beq, List.cons_append, List.nil_append, List.append_eq, List.map_cons, List.map_nil, ite_self, reduceIte]
      simp only [leS_mk, leL_cons, leL_nil, le_junk, le_int, le_bool, le_nil, leLL_nil, leLL_cons, leH_cons, leH_nil, leH1_box, leH1_own, leH1_gone, le_vs, le_agg, le_tup, le_ptr, le_own, le_xp, le_fn, le_opt, le_val, le_elem, le_nil_own, le_nil_vs, leH_ghost, leL_chunk, leXL_id, bnd_int, bnd_bool, bnd_val, bnd_nil, bnd_junk, bnd_vs, bnd_xp, bnd_agg, bnd_tup, bnd_ptr, bnd_own, bnd_elem, bnd_fn, bnd_iface, bnd_opt, bndL_nil, bndL_cons, lenH_cons, lenH_nil, imp_self, implies_true, true_and, and_true]
      simp
    · rintro i ⟨hi, ha⟩
      dsimp only [H2_ct68, blwC, encB, encS, encT, Int.toNat_natCast, go_sem, Option.bind, Option.map, List.append_nil, Nat.beq, List.cons_append, List.nil_append, List.append_eq, List.map_cons, List.map_nil, ite_self, reduceIte]
      simp only [true_and, and_true, imp_self, implies_true, decide_eq_true_eq, decide_eq_false_iff_not, Nat.reduceAdd, Nat.reduceLeDiff, Bool.not_not, reduceCtorEq, false_imp_iff, Bool.not_eq_true', Bool.not_eq_false', Bool.false_eq_true, and_self, forall_const, ne_eq, not_false_eq_true, Nat.reduceEqDiff]
      refine ⟨fun hlt => ⟨⟨by omega, hlt⟩, b, ls, ⟨brdP_self b, lsP_self, hb0, hl0, hlen, hall _ (getD_mem (by omega)), by omega, by omega⟩, ?_⟩, fun hge => ?_⟩
      simp only [show reachF b ls ((l.getD i default).1, (l.getD i default).2) (ls.getD m default) = F (l.getD i default) by rw [hF]]
      refine ⟨fun hb => ?_, fun hb => ?_⟩
      · have e : l.any F = true := List.any_eq_true.2 ⟨_, getD_mem (by omega : i < l.length), hb⟩
        have e2 : decide (0 ≤ (i : Int)) = true := decide_eq_true (by omega)
        rw [e2]
        exact ans_bool (by rw [e] at h; exact h)
      · refine ⟨i + 1, ⟨by omega, fun j hj => ?_⟩, by omega, ?_⟩
        · rcases Nat.lt_or_ge j i with h' | h'
          · exact ha j h'
          · obtain rfl : j = i := by omega
            exact hb
        · simp only [w_succ (i := i) (n := l.length) (by omega) (by omega), leS_mk, leL_cons, leL_nil, le_junk, le_int, le_bool, le_nil, leLL_nil, leLL_cons, leH_cons, leH_nil, leH1_box, leH1_own, leH1_gone, le_vs, le_agg, le_tup, le_ptr, le_own, le_xp, le_fn, le_opt, le_val, le_elem, le_nil_own, le_nil_vs, leH_ghost, leL_chunk, leXL_id, bnd_int, bnd_bool, bnd_val, bnd_nil, bnd_junk, bnd_vs, bnd_xp, bnd_agg, bnd_tup, bnd_ptr, bnd_own, bnd_elem, bnd_fn, bnd_iface, bnd_opt, bndL_nil, bndL_cons, lenH_cons, lenH_nil, imp_self, implies_true, true_and, and_true] <;> simp
      · have e : l.any F = false := List.any_eq_false.2 fun x hx => by
          obtain ⟨j, hj, rfl⟩ := mem_getD hx
          rw [ha j (by omega)]; simp
        exact ans_bool (by rw [e] at h; exact h)
  · exact h.1.elim

def bldC : Ctr := { alias := false, of := fun l => match l with
  | [.agg [.int .i64 w, .int .i64 d, .int .i64 c, .int .i64 a, .int .i64 s, .vs _ _ n sz get], .vs _ _ n' sz' get'] => .ex Brd fun b => .ex (List Std) fun l => .pre (brdP b w d c a s n sz get ∧ lsP 4 encS n' sz' get' l ∧ okB b ∧ (∀ p ∈ l, okP p) ∧ l.length ≤ 200) (.fin (lsR (blockedL b l)) [])
  | _ => noC }
def H3 : Env := { ct := fun n => match n with | 58 => some anyWC | _ => none, fn := fun _ => none, meth := fun _ _ => none }
theorem H3_ct58 : H3.ct 58 = some anyWC := rfl
theorem H3_ok : EnvOk Try.prog H3 := by
  refine ⟨fun f c h => ?_, fun f vf h => ?_, (fun _ _ _ h => by cases h), by kernel_rfl⟩
  · simp only [H3] at h
    split at h
    · cases h; exact ⟨anyW_ok, Try.f58, Try.func58, by kernel_rfl, by kernel_rfl⟩
    · cases h
  · cases h

theorem bld_ok : bldC.ok Try.prog 48 := by
  refine contract Try.func48 v48_is H3_ok 200 bldC fun args k h => ?_
  simp only [bldC] at h
  split at h
  · rename_i w d c a s t z n sz get t' z' n' sz' get'
    obtain ⟨b, l, ⟨hbp, ⟨rfl, rfl, hg⟩, hb, hl, hlen⟩, h⟩ := h
    refine ⟨[.agg (encB t z b), .vs t' z' l.length 4 (fun k => encS (l.getD k default))], ⟨brd_le hbp, by simpa [le] using hg, trivial⟩, ?_⟩
    have h : k (lsR (blockedL b l)) [] := h
    obtain ⟨F, hF⟩ : ∃ F, F = fun i => !b.wk.any fun w => reachF b l w (l.getD i default) := ⟨_, rfl⟩
    have hR : blockedL b l = part F l.length := by rw [hF]; rfl
    rw [hR] at h
    have h8 := hb.2.2.2.2.2.1
    dsimp only [v48, encB, encT, encS, go_sem, Option.bind, Option.map, List.append_nil, Nat.beq, List.cons_append, List.nil_append, List.append_eq, List.map_cons, List.map_nil, ite_self, reduceIte]
    simp only [true_and, and_true, imp_self, implies_true, decide_eq_true_eq, decide_eq_false_iff_not, Nat.reduceAdd, Nat.reduceLeDiff, Bool.not_not, reduceCtorEq, false_imp_iff, Bool.not_eq_true', Bool.not_eq_false', Bool.false_eq_true, and_self, forall_const, ne_eq, not_false_eq_true, Nat.reduceEqDiff]
    refine Loop.keep [2, 0, 1, 2, 0] Nat (fun j => [(5, .own 2 0 (part F j).length 1), (9, .int .i64 j)]) (fun j => [(2, .own (decide ((part F j).length = 0)) 1 (part F j).length (fun k => encI ((part F j).getD k default)))]) [.gone] (fun j => j ≤ l.length) (fun j => l.length - j) ?_ ?_
    · refine ⟨0, Nat.zero_le _, ?_⟩
      dsimp only [go_sem, Option.bind, Option.map, List.append_nil, Nat.beq, List.cons_append, List.nil_append, List.append_eq, List.map_cons, List.map_nil, ite_self, reduceIte]
      simp only [leS_mk, leL_cons, leL_nil, le_junk, le_int, le_bool, le_nil, leLL_nil, leLL_cons, leH_cons, leH_nil, leH1_box, leH1_own, leH1_gone, le_vs, le_agg, le_tup, le_ptr, le_own, le_xp, le_fn, le_opt, le_val, le_elem, le_nil_own, le_nil_vs, leH_ghost, leL_chunk, leXL_id, bnd_int, bnd_bool, bnd_val, bnd_nil, bnd_junk, bnd_vs, bnd_xp, bnd_agg, bnd_tup, bnd_ptr, bnd_own, bnd_elem, bnd_fn, bnd_iface, bnd_opt, bndL_nil, bndL_cons, lenH_cons, lenH_nil, imp_self, implies_true, true_and, and_true]
      simp [part]
    · rintro j hj
      dsimp only [H3_ct58, anyWC, encT, encS, encI, Int.toNat_natCast, go_sem, Option.bind, Option.map, List.append_nil, Nat.beq, List.cons_append, List.nil_append, List.append_eq, List.map_cons, List.map_nil, ite_self, reduceIte]
      simp only [true_and, and_true, imp_self, implies_true, decide_eq_true_eq, decide_eq_false_iff_not, Nat.reduceAdd, Nat.reduceLeDiff, Bool.not_not, reduceCtorEq, false_imp_iff, Bool.not_eq_true', Bool.not_eq_false', Bool.false_eq_true, and_self, forall_const, ne_eq, not_false_eq_true, Nat.reduceEqDiff]
      refine ⟨fun hlt => ?_, fun hge => ?_⟩
      · refine ⟨b.wk, fun w => reachF b l w (l.getD j default), ⟨lsP_self, by omega, ⟨rfl, _, _, _, _, z, _, z', b, l, j, rfl, hb, hl, hlen, by omega, rfl⟩, hb.2.2.2.2.2.2⟩, fun ht => ?_, fun ht => ?_⟩
        · have hFj : F j = true := by rw [hF]; simpa using ht
          have hpl := part_le F j
          refine ⟨by decide, ⟨by unfold capOk; omega, fun q hq => match q, hq with | 0, _ => ⟨rfl, trivial, trivial⟩⟩, j + 1, by omega, by omega, ?_⟩
          rw [part_t hFj]
          simp only [List.length_append, List.length_singleton, getD_app, w_succ (i := j) (n := 1000000000000) (by omega) (by omega), leS_mk, leL_cons, leL_nil, le_junk, le_int, le_bool, le_nil, leLL_nil, leLL_cons, leH_cons, leH_nil, leH1_box, leH1_own, leH1_gone, le_vs, le_agg, le_tup, le_ptr, le_own, le_xp, le_fn, le_opt, le_val, le_elem, le_nil_own, le_nil_vs, leH_ghost, leL_chunk, leXL_id, bnd_int, bnd_bool, bnd_val, bnd_nil, bnd_junk, bnd_vs, bnd_xp, bnd_agg, bnd_tup, bnd_ptr, bnd_own, bnd_elem, bnd_fn, bnd_iface, bnd_opt, bndL_nil, bndL_cons, lenH_cons, lenH_nil, imp_self, implies_true, true_and, and_true]
          refine ⟨by omega, by simp, fun q hq => ?_⟩
          rcases Nat.lt_or_ge q (part F j).length with h' | h'
          · rw [if_pos h', if_pos h']; exact leL_self [.int _ _] ⟨trivial, trivial⟩
          · obtain rfl : q = (part F j).length := by omega
            rw [if_neg (by omega), if_neg (by omega), if_pos rfl, Nat.sub_self]
            exact leL_self [.int _ _] ⟨trivial, trivial⟩
        · have hFj : F j = false := by rw [hF]; simpa using ht
          refine ⟨j + 1, by omega, by omega, ?_⟩
          rw [part_f hFj]
          simp only [w_succ (i := j) (n := 1000000000000) (by omega) (by omega), leS_mk, leL_cons, leL_nil, le_junk, le_int, le_bool, le_nil, leLL_nil, leLL_cons, leH_cons, leH_nil, leH1_box, leH1_own, leH1_gone, le_vs, le_agg, le_tup, le_ptr, le_own, le_xp, le_fn, le_opt, le_val, le_elem, le_nil_own, le_nil_vs, leH_ghost, leL_chunk, leXL_id, bnd_int, bnd_bool, bnd_val, bnd_nil, bnd_junk, bnd_vs, bnd_xp, bnd_agg, bnd_tup, bnd_ptr, bnd_own, bnd_elem, bnd_fn, bnd_iface, bnd_opt, bndL_nil, bndL_cons, lenH_cons, lenH_nil, imp_self, implies_true, true_and, and_true]
          omega
      · obtain rfl : j = l.length := by omega
        refine ans_le (show k _ [] from h) ?_ ?_
        · dsimp only [lsR, expo, encI, go_sem, Option.bind, Option.map, List.append_nil, Nat.beq, List.cons_append, List.nil_append, List.append_eq, List.map_cons, List.map_nil, ite_self, reduceIte]
          simp only [leS_mk, leL_cons, leL_nil, le_junk, le_int, le_bool, le_nil, leLL_nil, leLL_cons, leH_cons, leH_nil, leH1_box, leH1_own, leH1_gone, le_vs, le_agg, le_tup, le_ptr, le_own, le_xp, le_fn, le_opt, le_val, le_elem, le_nil_own, le_nil_vs, leH_ghost, leL_chunk, leXL_id, bnd_int, bnd_bool, bnd_val, bnd_nil, bnd_junk, bnd_vs, bnd_xp, bnd_agg, bnd_tup, bnd_ptr, bnd_own, bnd_elem, bnd_fn, bnd_iface, bnd_opt, bndL_nil, bndL_cons, lenH_cons, lenH_nil, imp_self, implies_true, true_and, and_true]
        · intro _; simp [freshS, freshL, encI, lsR]
  · exact h.1.elim

def bkdC : Ctr := { alias := false, of := fun l => match l with
  | [.agg [.int .i64 w, .int .i64 d, .int .i64 c, .int .i64 a, .int .i64 s, .vs _ _ n sz get], .vs _ _ n' sz' get'] => .ex Brd fun b => .ex (List Std) fun l => .pre (brdP b w d c a s n sz get ∧ lsP 4 encS n' sz' get' l) (.fin (.tup [lsR (blockedR b l).1, .int .i64 (blockedR b l).2]) [])
  | _ => noC }
def accC : Ctr := { alias := false, of := fun l => match l with
  | [.agg [.int .i64 w, .int .i64 d, .int .i64 c, .int .i64 a, .int .i64 s, .vs _ _ n sz get], .vs _ _ n' sz' get'] => .ex Brd fun b => .ex (List Std) fun l => .pre (brdP b w d c a s n sz get ∧ lsP 4 encS n' sz' get' l) (.fin (.tup [.bool (acceptR b l).1, .int .i64 (acceptR b l).2]) [])
  | _ => noC }
def H4 : Env := { ct := fun n => match n with | 44 => some chC | 48 => some bldC | 49 => some staC | _ => none, fn := fun _ => none, meth := fun _ _ => none }
theorem H4_ct44 : H4.ct 44 = some chC := rfl
theorem H4_ct48 : H4.ct 48 = some bldC := rfl
theorem H4_ct49 : H4.ct 49 = some staC := rfl
theorem H4_ok : EnvOk Try.prog H4 := by
  refine ⟨fun f c h => ?_, fun f vf h => ?_, (fun _ _ _ h => by cases h), by kernel_rfl⟩
  · simp only [H4] at h
    split at h
    · cases h; exact ⟨ch_ok, Try.f44, Try.func44, by kernel_rfl, by kernel_rfl⟩
    · cases h; exact ⟨bld_ok, Try.f48, Try.func48, by kernel_rfl, by kernel_rfl⟩
    · cases h; exact ⟨sta_ok, Try.f49, Try.func49, by kernel_rfl, by kernel_rfl⟩
    · cases h
  · cases h

theorem ans_li {k : SV → List HO → Prop} {al : Bool} {hp : List HO} {l : List Nat} {e : Int} (h : k (.tup [lsR l, .int .i64 e]) []) : answers al k (.tup [.vs true (decide (l.length = 0)) l.length 1 (fun k => encI (l.getD k default)), .int .i64 e]) hp :=
  ans_le h (le_self (.tup [lsR l, .int .i64 e]) ⟨trivial, trivial, trivial⟩) (fun _ => by simp [lsR, freshS, freshL, encI])
theorem bkd_ok : bkdC.ok Try.prog 22 := by
  refine contract Try.func22 v22_is H4_ok 200 bkdC fun args k h => ?_
  simp only [bkdC] at h
  split at h
  · rename_i w d c a s t z n sz get t' z' n' sz' get'
    obtain ⟨b, l, ⟨hbp, rfl, rfl, hg⟩, h⟩ := h
    refine ⟨[.agg (encB t z b), .vs t' z' l.length 4 (fun k => encS (l.getD k default))], ⟨brd_le hbp, by simpa [le] using hg, trivial⟩, ?_⟩
    have h : k (.tup [lsR (blockedR b l).1, .int .i64 (blockedR b l).2]) [] := h
    dsimp only [v22, H4_ct44, H4_ct48, chC, bldC, lsR, encB, encT, encS, go_sem, Option.bind, Option.map, List.append_nil, Nat.beq, List.cons_append, List.nil_append, List.append_eq, List.map_cons, List.map_nil, ite_self, reduceIte]
    simp only [true_and, and_true, imp_self, implies_true, decide_eq_true_eq, decide_eq_false_iff_not, Nat.reduceAdd, Nat.reduceLeDiff, Bool.not_not, reduceCtorEq, false_imp_iff, Bool.not_eq_true', Bool.not_eq_false', Bool.false_eq_true, and_self, forall_const, ne_eq, not_false_eq_true, Nat.reduceEqDiff]
    unfold blockedR at h
    refine ⟨b, l, ⟨brdP_self b, lsP_self⟩, fun hc => ?_, fun hc => ?_⟩
    · rw [if_pos hc] at h; exact ans_lin h
    · rw [if_neg (by omega)] at h
      obtain ⟨hb, hl, hlen⟩ := chkF_ok hc
      exact ⟨b, l, ⟨brdP_self b, lsP_self, hb, hl, hlen⟩, ans_li h⟩
  · exact h.1.elim
theorem ans_bi {k : SV → List HO → Prop} {al : Bool} {hp : List HO} {b : Bool} {e : Int} (h : k (.tup [.bool b, .int .i64 e]) []) : answers al k (.tup [.bool b, .int .i64 e]) hp :=
  ans_le h (le_self (.tup [.bool b, .int .i64 e]) ⟨trivial, trivial, trivial⟩) (fun _ => by simp [freshS, freshL])
theorem acc_ok : accC.ok Try.prog 27 := by
  refine contract Try.func27 v27_is H4_ok 200 accC fun args k h => ?_
  simp only [accC] at h
  split at h
  · rename_i w d c a s t z n sz get t' z' n' sz' get'
    obtain ⟨b, l, ⟨hbp, rfl, rfl, hg⟩, h⟩ := h
    refine ⟨[.agg (encB t z b), .vs t' z' l.length 4 (fun k => encS (l.getD k default))], ⟨brd_le hbp, by simpa [le] using hg, trivial⟩, ?_⟩
    have h : k (.tup [.bool (acceptR b l).1, .int .i64 (acceptR b l).2]) [] := h
    dsimp only [v27, H4_ct44, H4_ct48, H4_ct49, chC, bldC, staC, lsR, encB, encT, encS, go_sem, Option.bind, Option.map, List.append_nil, Nat.beq, List.cons_append, List.nil_append, List.append_eq, List.map_cons, List.map_nil, ite_self, reduceIte]
    simp only [true_and, and_true, imp_self, implies_true, decide_eq_true_eq, decide_eq_false_iff_not, Nat.reduceAdd, Nat.reduceLeDiff, Bool.not_not, reduceCtorEq, false_imp_iff, Bool.not_eq_true', Bool.not_eq_false', Bool.false_eq_true, and_self, forall_const, ne_eq, not_false_eq_true, Nat.reduceEqDiff]
    unfold acceptR at h
    refine ⟨b, l, ⟨brdP_self b, lsP_self⟩, fun hc => ?_, fun hc => ?_⟩
    · rw [if_pos hc] at h; exact ans_bi h
    · rw [if_neg (by omega)] at h
      obtain ⟨hb, hl, hlen⟩ := chkF_ok hc
      have e : decide (((blockedL b l).length : Int) = 0) = decide ((blockedL b l).length = 0) := by congr 1; exact propext (by omega)
      refine ⟨b, l, ⟨brdP_self b, lsP_self, hb, hl, hlen⟩, b, l, fun _ => ⟨brdP_self b, lsP_self, hb, hl, hlen⟩, ?_⟩
      rw [e]
      exact ans_bi h
  · exact h.1.elim
end Go.Proofs.Ytojaibhjfeojjaa

/- Layouts in plain Lean: what the plans are. -/
set_option linter.all false
namespace Go.Proofs.Ytojaibhjfeojjaa
open Go Go.Vx

def okF (f : Ft) : Prop := (1 ≤ f.1 ∧ f.1 ≤ 1000000) ∧ 1 ≤ f.2 ∧ f.2 ≤ 12000000
def okPl (p : Plan) : Prop := (0 ≤ p.depth ∧ p.depth ≤ 1000000000) ∧ (0 ≤ p.rows ∧ p.rows ≤ 1000) ∧ (0 ≤ p.first ∧ p.first ≤ 1000)

def ltP (p q : Plan) : Prop := p.depth < q.depth ∨ p.depth = q.depth ∧ p.rows < q.rows
def leP (p q : Plan) : Prop := ltP p q ∨ p.depth = q.depth ∧ p.rows = q.rows ∧ p.first ≤ q.first
theorem leP_self (p : Plan) : leP p p := .inr ⟨rfl, rfl, Int.le_refl _⟩
theorem leP_trans {p q r : Plan} (h1 : leP p q) (h2 : leP q r) : leP p r := by unfold leP ltP at *; omega
theorem better_iff {p out : Plan} (h : out.is = true) : betterF p out = true ↔ ltP p out := by
  simp only [betterF, h, Bool.not_true, Bool.false_or, Bool.or_eq_true, Bool.and_eq_true, decide_eq_true_eq]; rfl

/-- A row's width and depth, from so much on. -/
def wideG (b : Brd) (w : Int) (l : List Ft) : Int := l.foldl (fun w f => w + (b.c + 2 * f.1)) w
def deepG (m : Int) (l : List Ft) : Int := l.foldl (fun m f => max m (2 * f.1)) m
theorem wideG_le {b : Brd} (hc : 0 ≤ b.c) : ∀ (l : List Ft) (w : Int), (∀ f ∈ l, 1 ≤ f.1) → w ≤ wideG b w l
  | [], w, _ => Int.le_refl _
  | f :: l, w, h => by
    have h1 := h f List.mem_cons_self
    have := wideG_le hc l (w + (b.c + 2 * f.1)) fun g hg => h g (List.mem_cons_of_mem _ hg)
    unfold wideG at *
    rw [List.foldl_cons]; omega
theorem deepG_rng : ∀ (l : List Ft) (m : Int), (∀ f ∈ l, okF f) → 0 ≤ m → m ≤ 2000000 → m ≤ deepG m l ∧ deepG m l ≤ 2000000
  | [], m, _, _, h => ⟨Int.le_refl _, h⟩
  | f :: l, m, h, h0, h1 => by
    obtain ⟨⟨f1, f2⟩, _⟩ := h f List.mem_cons_self
    have := deepG_rng l (max m (2 * f.1)) (fun g hg => h g (List.mem_cons_of_mem _ hg)) (by omega) (by omega)
    unfold deepG at *
    rw [List.foldl_cons]; omega

/-- What the loop finds: one of the first rows that are possible, and none is better. -/
theorem bestG_spec {b : Brd} (hc : 0 ≤ b.c) : ∀ (l : List Ft) (ps : List Plan) (wide deep : Int) (k : Nat) (out : Plan), (∀ f ∈ l, 1 ≤ f.1) → (out.is = true → out.first ≤ k) →
    (bestG b l ps wide deep k out = out ∨ ∃ j, j < l.length ∧ wideG b wide (l.take (j + 1)) ≤ b.w ∧ (ps.getD j default).is = true ∧ bestG b l ps wide deep k out = candF b (deepG deep (l.take (j + 1))) (ps.getD j default) (k + j)) ∧
    (out.is = true → (bestG b l ps wide deep k out).is = true ∧ leP (bestG b l ps wide deep k out) out) ∧
    (∀ j, j < l.length → wideG b wide (l.take (j + 1)) ≤ b.w → (ps.getD j default).is = true → (bestG b l ps wide deep k out).is = true ∧ leP (bestG b l ps wide deep k out) (candF b (deepG deep (l.take (j + 1))) (ps.getD j default) (k + j)))
  | [], ps, wide, deep, k, out, _, _ => ⟨.inl rfl, fun h => ⟨h, leP_self _⟩, fun j h => absurd h (Nat.not_lt_zero _)⟩
  | f :: l, ps, wide, deep, k, out, hl, hk => by
    have hl' : ∀ g ∈ l, 1 ≤ g.1 := fun g hg => hl g (List.mem_cons_of_mem _ hg)
    have hw : ∀ j, wideG b wide ((f :: l).take (j + 1)) = wideG b (wide + (b.c + 2 * f.1)) (l.take j) := fun j => rfl
    have hd : ∀ j, deepG deep ((f :: l).take (j + 1)) = deepG (max deep (2 * f.1)) (l.take j) := fun j => rfl
    have hp : ps.headD default = ps.getD 0 default := by cases ps <;> rfl
    have ht : ∀ j, ps.tail.getD j default = ps.getD (j + 1) default := fun j => by cases ps <;> rfl
    rw [bestG]
    split
    · rename_i hb
      refine ⟨.inl rfl, fun h => ⟨h, leP_self _⟩, fun j hj h1 => ?_⟩
      have := wideG_le hc (l.take j) (wide + (b.c + 2 * f.1)) fun g hg => hl' g (List.mem_of_mem_take hg)
      rw [hw] at h1; omega
    · rename_i hb
      obtain ⟨C, hC⟩ : ∃ C, C = candF b (max deep (2 * f.1)) (ps.headD default) k := ⟨_, rfl⟩
      obtain ⟨o, ho⟩ : ∃ o, o = (if (ps.headD default).is = false then out else if betterF C out then C else out) := ⟨_, rfl⟩
      rw [← hC, ← ho]
      have hCi : C.is = true := by rw [hC]; rfl
      have hCf : C.first = (k : Int) + 1 := by rw [hC]; rfl
      have hok : o.is = true → o.first ≤ ((k + 1 : Nat) : Int) := by
        rw [ho]
        split
        · intro h; have := hk h; omega
        · split
          · intro _; rw [hCf]; omega
          · intro h; have := hk h; omega
      have hoo : out.is = true → o.is = true ∧ leP o out := by
        intro h
        rw [ho]
        split
        · exact ⟨h, leP_self _⟩
        · split
          · rename_i hbt
            exact ⟨hCi, .inl ((better_iff h).1 hbt)⟩
          · exact ⟨h, leP_self _⟩
      have hoC : (ps.headD default).is = true → o.is = true ∧ leP o C := by
        intro h
        rw [ho, if_neg (by rw [h]; simp)]
        split
        · exact ⟨hCi, leP_self _⟩
        · rename_i hbt
          cases hi : out.is with
          | false => exact absurd (by simp [betterF, hi]) hbt
          | true =>
            refine ⟨rfl, ?_⟩
            have h1 : ¬ ltP C out := fun hh => hbt ((better_iff hi).2 hh)
            have h2 := hk hi
            unfold leP ltP at *
            rw [hCf]; omega
      obtain ⟨s1, s2, s3⟩ := bestG_spec hc l ps.tail (wide + (b.c + 2 * f.1)) (max deep (2 * f.1)) (k + 1) o hl' hok
      refine ⟨?_, fun h => ?_, fun j hj h1 h2 => ?_⟩
      · rcases s1 with e | ⟨j, h1, h2, h3, h4⟩
        · rw [e, ho]
          split
          · exact .inl rfl
          · rename_i hi
            split
            · right
              refine ⟨0, by simp, ?_, ?_, ?_⟩
              · rw [hw]; show wide + (b.c + 2 * f.1) ≤ b.w; omega
              · rw [← hp]; simpa using hi
              · rw [hC, ← hp]; rfl
            · exact .inl rfl
        · right
          refine ⟨j + 1, by simpa using h1, by rw [hw]; exact h2, by rw [← ht]; exact h3, ?_⟩
          rw [h4, hd, ht, show k + 1 + j = k + (j + 1) by omega]
      · obtain ⟨a1, a2⟩ := hoo h
        obtain ⟨b1, b2⟩ := s2 a1
        exact ⟨b1, leP_trans b2 a2⟩
      · cases j with
        | zero =>
          rw [← hp] at h2
          obtain ⟨a1, a2⟩ := hoC h2
          obtain ⟨b1, b2⟩ := s2 a1
          rw [hd, ← hp]
          refine ⟨b1, leP_trans b2 ?_⟩
          rw [hC] at a2; exact a2
        | succ j =>
          rw [hw] at h1
          rw [hd, ← ht, show k + (j + 1) = k + 1 + j by omega]
          exact s3 j (by simpa using hj) h1 (by rw [ht]; exact h2)

theorem plans_len (b : Brd) : ∀ l : List Ft, (plansF b l).length = l.length + 1
  | [] => rfl
  | f :: l => by rw [plansF, List.length_cons, plans_len b l, List.length_cons]
theorem plans_drop (b : Brd) : ∀ (l : List Ft) (j : Nat), j ≤ l.length → (plansF b l).drop j = plansF b (l.drop j)
  | l, 0, _ => rfl
  | [], j + 1, h => by simp at h
  | f :: l, j + 1, h => by
    rw [plansF, List.drop_succ_cons, List.drop_succ_cons]
    exact plans_drop b l j (by simpa using h)
theorem plans_get (b : Brd) {l : List Ft} {j : Nat} (h : j ≤ l.length) : (plansF b l).getD j default = headP b (l.drop j) := by
  unfold headP
  rw [← plans_drop b l j h]
  rw [List.getD_eq_getElem?_getD]
  have : j < (plansF b l).length := by rw [plans_len]; omega
  rw [List.drop_eq_getElem_cons this, List.getElem?_eq_getElem this]; rfl
theorem plans_nil (b : Brd) : headP b [] = ⟨0, 0, 0, true⟩ := rfl
/-- The best division of some pipes: its first row. -/
theorem head_spec {b : Brd} (hc : 0 ≤ b.c) {l : List Ft} (h0 : 0 < l.length) (hl : ∀ f ∈ l, 1 ≤ f.1) :
    ((headP b l).is = false ∧ headP b l = ⟨0, 0, 0, false⟩ ∨ ∃ j, j < l.length ∧ wideG b (-b.c) (l.take (j + 1)) ≤ b.w ∧ (headP b (l.drop (j + 1))).is = true ∧ headP b l = candF b (deepG 0 (l.take (j + 1))) (headP b (l.drop (j + 1))) j) ∧
    ∀ j, j < l.length → wideG b (-b.c) (l.take (j + 1)) ≤ b.w → (headP b (l.drop (j + 1))).is = true → (headP b l).is = true ∧ leP (headP b l) (candF b (deepG 0 (l.take (j + 1))) (headP b (l.drop (j + 1))) j) := by
  cases l with
  | nil => simp at h0
  | cons f l =>
    have e : headP b (f :: l) = bestG b (f :: l) (plansF b l) (-b.c) 0 0 ⟨0, 0, 0, false⟩ := rfl
    obtain ⟨s1, _, s3⟩ := bestG_spec hc (f :: l) (plansF b l) (-b.c) 0 0 ⟨0, 0, 0, false⟩ hl (fun h => by cases h)
    rw [← e] at s1 s3
    have hg : ∀ j, j < (f :: l).length → (plansF b l).getD j default = headP b ((f :: l).drop (j + 1)) := fun j hj => plans_get b (by simpa using Nat.lt_succ_iff.1 hj)
    refine ⟨?_, fun j hj h1 h2 => ?_⟩
    · rcases s1 with e1 | ⟨j, hj, h1, h2, h3⟩
      · left; rw [e1]; exact ⟨rfl, rfl⟩
      · right
        rw [hg j hj] at h2 h3
        rw [Nat.zero_add] at h3
        exact ⟨j, hj, h1, h2, h3⟩
    · have := s3 j hj h1 (by rw [hg j hj]; exact h2)
      rw [hg j hj, Nat.zero_add] at this
      exact this
theorem head_ok {b : Brd} (hc : 0 ≤ b.c ∧ b.c ≤ 1000000) : ∀ (n : Nat) (l : List Ft), l.length = n → n ≤ 200 → (∀ f ∈ l, okF f) → (0 ≤ (headP b l).depth ∧ (headP b l).depth ≤ 3000000 * n) ∧ (0 ≤ (headP b l).rows ∧ (headP b l).rows ≤ n) ∧ (0 ≤ (headP b l).first ∧ (headP b l).first ≤ n) := by
  intro n
  induction n using Nat.strongRecOn with
  | ind n ih =>
    intro l hn h2 hl
    rcases Nat.eq_zero_or_pos n with h0 | h0
    · have : l = [] := List.eq_nil_of_length_eq_zero (by omega)
      subst this
      rw [plans_nil]; simp only; omega
    · obtain ⟨s1, _⟩ := head_spec hc.1 (l := l) (by omega) fun f hf => (hl f hf).1.1
      rcases s1 with ⟨_, e⟩ | ⟨j, hj, h3, h4, e⟩
      · rw [e]; simp only; omega
      · have hd := deepG_rng (l.take (j + 1)) 0 (fun f hf => hl f (List.mem_of_mem_take hf)) (by omega) (by omega)
        have i1 := ih (n - (j + 1)) (by omega) (l.drop (j + 1)) (by rw [List.length_drop]; omega) (by omega) fun f hf => hl f (List.mem_of_mem_drop hf)
        rw [e]
        unfold candF
        generalize headP b (l.drop (j + 1)) = R at *
        generalize deepG 0 (l.take (j + 1)) = D at *
        simp only
        split <;> omega
theorem plans_ok {b : Brd} (hc : 0 ≤ b.c ∧ b.c ≤ 1000000) {l : List Ft} (hn : l.length ≤ 200) (hl : ∀ f ∈ l, okF f) : ∀ p ∈ plansF b l, okPl p := by
  intro p hp
  obtain ⟨j, hj, rfl⟩ := mem_getD hp
  rw [plans_len] at hj
  rw [plans_get b (by omega)]
  have := head_ok hc (l.length - j) (l.drop j) (by rw [List.length_drop]) (by omega) fun f hf => hl f (List.mem_of_mem_drop hf)
  unfold okPl
  generalize headP b (l.drop j) = R at *
  omega
/-- A division's first row. -/
theorem head_first {b : Brd} (hc : 0 ≤ b.c) {l : List Ft} (h0 : 0 < l.length) (hl : ∀ f ∈ l, 1 ≤ f.1) (hi : (headP b l).is = true) :
    ∃ j, j < l.length ∧ (headP b l).first = (j : Int) + 1 ∧ wideG b (-b.c) (l.take (j + 1)) ≤ b.w ∧ (headP b (l.drop (j + 1))).is = true ∧ headP b l = candF b (deepG 0 (l.take (j + 1))) (headP b (l.drop (j + 1))) j := by
  obtain ⟨s1, _⟩ := head_spec hc h0 hl
  rcases s1 with ⟨e, _⟩ | ⟨j, hj, h1, h2, e⟩
  · rw [e] at hi; cases hi
  · exact ⟨j, hj, by rw [e]; rfl, h1, h2, e⟩
theorem maxG_most {l : List Ft} (h : ∀ f ∈ l, 1 ≤ f.1) (h0 : 0 < l.length) : (l.foldl (fun m f => if m.1 < f.1 then f else m) (l.headD default)).1 = mostF l := by
  have key : ∀ (l : List Ft) (m : Ft), (l.foldl (fun m f => if m.1 < f.1 then f else m) m).1 = l.foldl (fun m f => max m f.1) m.1 := by
    intro l
    induction l with
    | nil => intro m; rfl
    | cons f l ih =>
      intro m
      rw [List.foldl_cons, List.foldl_cons, ih]
      congr 1
      split <;> omega
  cases l with
  | nil => simp at h0
  | cons f l =>
    have hf := h f List.mem_cons_self
    rw [key]
    show (f :: l).foldl (fun m f => max m f.1) f.1 = (f :: l).foldl (fun m f => max m f.1) 0
    rw [List.foldl_cons, List.foldl_cons, Int.max_self, Int.max_eq_right (by omega)]
theorem mostF_rng : ∀ (l : List Ft) (m : Int), (∀ f ∈ l, okF f) → 0 ≤ m → m ≤ 1000000 → 0 ≤ l.foldl (fun m f => max m f.1) m ∧ l.foldl (fun m f => max m f.1) m ≤ 1000000
  | [], m, _, h0, h1 => ⟨h0, h1⟩
  | f :: l, m, h, h0, h1 => by
    obtain ⟨⟨f1, f2⟩, _⟩ := h f List.mem_cons_self
    rw [List.foldl_cons]
    exact mostF_rng l _ (fun g hg => h g (List.mem_cons_of_mem _ hg)) (by omega) (by omega)
theorem rowF_len (b : Brd) (y : Int) : ∀ (l : List Ft) (x : Int), (rowF b y l x).length = l.length
  | [], _ => rfl
  | f :: l, x => by rw [rowF, List.length_cons, rowF_len b y l, List.length_cons]
end Go.Proofs.Ytojaibhjfeojjaa

/- Layouts, walked: rows. -/
set_option linter.all false
namespace Go.Proofs.Ytojaibhjfeojjaa
open Go Go.Vx
set_option maxRecDepth 100000
set_option maxHeartbeats 4000000

def v36 : VF := { ntmps := 81, res := [.cell 8 true 4], body :=
 (.seq (.region [⟨(some 4), none, .box, [.tm 0]⟩,
  ⟨(some 8), none, (.alloc [(.int .i64 0), (.int .i64 0), (.int .i64 0), (.bool false)]), []⟩])
 (.seq (.region [⟨(some 16), none, (.mkfn (.func 60) 0), [.tm 8]⟩,
  ⟨(some 9), none, .mov, [.tm 16]⟩])
 (.seq (.region [⟨(some 17), none, (.fieldAddr 2), [.tm 4]⟩,
  ⟨(some 18), none, (.load false 1), [.tm 17]⟩,
  ⟨(some 19), none, .neg, [.tm 18]⟩,
  ⟨(some 10), none, .mov, [.tm 19]⟩,
  ⟨(some 11), none, .mov, [.cn (.int .i64 0)]⟩])
 (.seq (.seq (.region [⟨(some 20), none, .mov, [.tm 1]⟩,
  ⟨(some 21), none, .mov, [.tm 3]⟩,
  ⟨(some 22), none, (.slice 2 true false), [.tm 20, .tm 21]⟩,
  ⟨(some 23), none, .len, [.tm 22]⟩,
  ⟨(some 24), none, .mov, [.cn (.int .i64 0)]⟩])
 (.block 0 (.loop (.seq (.region [⟨(some 25), none, (.cmp .lss), [.tm 24, .tm 23]⟩])
 (.seq (.cond (.tm 25) .skip
  (.exit 0))
 (.seq (.block 1 (.seq (.region [⟨(some 26), none, .mov, [.tm 24]⟩,
  ⟨(some 27), none, (.idxAddr 2), [.tm 22, .tm 24]⟩,
  ⟨(some 28), none, (.load true 2), [.tm 27]⟩,
  ⟨(some 13), none, (.alloc [(.int .i64 0), (.int .i64 0)]), []⟩,
  ⟨(some 12), none, .mov, [.tm 26]⟩,
  ⟨none, none, (.store 2), [.tm 13, .tm 28]⟩])
 (.seq (.region [⟨(some 29), none, .mov, [.tm 10]⟩,
  ⟨(some 30), none, (.fieldAddr 2), [.tm 4]⟩,
  ⟨(some 31), none, (.load false 1), [.tm 30]⟩,
  ⟨(some 32), none, (.fieldAddr 0), [.tm 13]⟩,
  ⟨(some 33), none, (.load false 1), [.tm 32]⟩,
  ⟨(some 34), none, (.ari .mul), [.cn (.int .i64 2), .tm 33]⟩,
  ⟨(some 35), none, (.ari .add), [.tm 31, .tm 34]⟩,
  ⟨(some 36), none, (.ari .add), [.tm 29, .tm 35]⟩,
  ⟨(some 10), none, .mov, [.tm 36]⟩])
 (.seq (.region [⟨(some 37), none, .mov, [.tm 11]⟩,
  ⟨(some 38), none, (.fieldAddr 0), [.tm 13]⟩,
  ⟨(some 39), none, (.load false 1), [.tm 38]⟩,
  ⟨(some 40), none, (.ari .mul), [.cn (.int .i64 2), .tm 39]⟩,
  ⟨(some 41), none, .max, [.tm 37, .tm 40]⟩,
  ⟨(some 11), none, .mov, [.tm 41]⟩])
 (.seq (.seq (.region [⟨(some 42), none, .mov, [.tm 10]⟩,
  ⟨(some 43), none, (.fieldAddr 0), [.tm 4]⟩,
  ⟨(some 44), none, (.load false 1), [.tm 43]⟩,
  ⟨(some 45), none, (.cmp .gtr), [.tm 42, .tm 44]⟩])
 (.cond (.tm 45) (.exit 0)
  .skip))
 (.seq (.region [⟨(some 46), none, .mov, [.tm 2]⟩,
  ⟨(some 47), none, .mov, [.tm 3]⟩,
  ⟨(some 48), none, .mov, [.tm 12]⟩,
  ⟨(some 49), none, (.ari .add), [.tm 47, .tm 48]⟩,
  ⟨(some 50), none, (.ari .add), [.tm 49, .cn (.int .i64 1)]⟩,
  ⟨(some 51), none, (.idxAddr 4), [.tm 46, .tm 50]⟩,
  ⟨(some 52), none, (.load true 4), [.tm 51]⟩,
  ⟨(some 14), none, (.alloc [(.int .i64 0), (.int .i64 0), (.int .i64 0), (.bool false)]), []⟩,
  ⟨none, none, (.store 4), [.tm 14, .tm 52]⟩])
 (.seq (.seq (.region [⟨(some 53), none, (.fieldAddr 3), [.tm 14]⟩,
  ⟨(some 54), none, (.load false 1), [.tm 53]⟩,
  ⟨(some 55), none, .not, [.tm 54]⟩])
 (.cond (.tm 55) (.exit 1)
  .skip))
 (.seq (.region [⟨(some 56), none, .mov, [.tm 11]⟩,
  ⟨(some 57), none, (.fieldAddr 0), [.tm 14]⟩,
  ⟨(some 58), none, (.load false 1), [.tm 57]⟩,
  ⟨(some 59), none, (.ari .add), [.tm 56, .tm 58]⟩,
  ⟨(some 60), none, (.fieldAddr 1), [.tm 14]⟩,
  ⟨(some 61), none, (.load false 1), [.tm 60]⟩,
  ⟨(some 62), none, (.ari .add), [.cn (.int .i64 1), .tm 61]⟩,
  ⟨(some 63), none, .mov, [.tm 12]⟩,
  ⟨(some 64), none, (.ari .add), [.tm 63, .cn (.int .i64 1)]⟩,
  ⟨(some 65), none, (.build [(.int .i64 0), (.int .i64 0), (.int .i64 0), (.bool false)] [(0, 1), (1, 1), (2, 1), (3, 1)]), [.tm 59, .tm 62, .tm 64, .cn (.bool true)]⟩,
  ⟨(some 15), none, (.alloc [(.int .i64 0), (.int .i64 0), (.int .i64 0), (.bool false)]), []⟩,
  ⟨none, none, (.store 4), [.tm 15, .tm 65]⟩])
 (.seq (.seq (.region [⟨(some 66), none, (.fieldAddr 1), [.tm 14]⟩,
  ⟨(some 67), none, (.load false 1), [.tm 66]⟩,
  ⟨(some 68), none, (.cmp .gtr), [.tm 67, .cn (.int .i64 0)]⟩])
 (.cond (.tm 68) (.region [⟨(some 69), none, (.fieldAddr 0), [.tm 15]⟩,
  ⟨(some 70), none, (.load false 1), [.tm 69]⟩,
  ⟨(some 71), none, (.fieldAddr 2), [.tm 4]⟩,
  ⟨(some 72), none, (.load false 1), [.tm 71]⟩,
  ⟨(some 73), none, (.ari .add), [.tm 70, .tm 72]⟩,
  ⟨(some 74), none, (.fieldAddr 0), [.tm 15]⟩,
  ⟨none, none, (.store 1), [.tm 74, .tm 73]⟩])
  .skip))
 (.seq (.region [⟨(some 75), none, .mov, [.tm 9]⟩,
  ⟨(some 76), none, (.load true 4), [.tm 15]⟩,
  ⟨(some 77), none, .callv, [.tm 75, .tm 76]⟩])
 (.cond (.tm 77) (.region [⟨(some 78), none, (.load true 4), [.tm 15]⟩,
  ⟨none, none, (.store 4), [.tm 8, .tm 78]⟩])
  .skip)))))))))))
 (.region [⟨(some 79), none, (.ari .add), [.tm 24, .cn (.int .i64 1)]⟩,
  ⟨(some 24), none, .mov, [.tm 79]⟩])))))))
 (.seq (.region [⟨(some 80), none, (.load true 4), [.tm 8]⟩,
  ⟨none, none, (.store 4), [.tm 8, .tm 80]⟩])
 .ret))))) }
theorem v36_is : vfunc Try.prog Try.f36 = some v36 := by kernel_rfl
def v60 : VF := { ntmps := 28, res := [.tmp 3], body :=
 (.seq (.region [⟨(some 2), none, .box, [.tm 0]⟩,
  ⟨(some 3), none, .mov, [.cn (.bool false)]⟩])
 (.seq (.region [⟨(some 4), none, (.fieldAddr 3), [.tm 1]⟩,
  ⟨(some 5), none, (.load false 1), [.tm 4]⟩,
  ⟨(some 6), none, .not, [.tm 5]⟩,
  ⟨(some 7), none, .mov, [.tm 6]⟩,
  ⟨(some 8), (some (7, false)), (.fieldAddr 0), [.tm 2]⟩,
  ⟨(some 9), (some (7, false)), (.load false 1), [.tm 8]⟩,
  ⟨(some 10), (some (7, false)), (.fieldAddr 0), [.tm 1]⟩,
  ⟨(some 11), (some (7, false)), (.load false 1), [.tm 10]⟩,
  ⟨(some 12), (some (7, false)), (.cmp .lss), [.tm 9, .tm 11]⟩,
  ⟨(some 13), none, .or, [.tm 7, .tm 12]⟩,
  ⟨(some 14), none, .mov, [.tm 13]⟩,
  ⟨(some 15), (some (14, false)), (.fieldAddr 0), [.tm 2]⟩,
  ⟨(some 16), (some (14, false)), (.load false 1), [.tm 15]⟩,
  ⟨(some 17), (some (14, false)), (.fieldAddr 0), [.tm 1]⟩,
  ⟨(some 18), (some (14, false)), (.load false 1), [.tm 17]⟩,
  ⟨(some 19), (some (14, false)), (.cmp .eql), [.tm 16, .tm 18]⟩,
  ⟨(some 20), (some (14, false)), .mov, [.tm 19]⟩,
  ⟨(some 21), (some (20, true)), (.fieldAddr 1), [.tm 2]⟩,
  ⟨(some 22), (some (20, true)), (.load false 1), [.tm 21]⟩,
  ⟨(some 23), (some (20, true)), (.fieldAddr 1), [.tm 1]⟩,
  ⟨(some 24), (some (20, true)), (.load false 1), [.tm 23]⟩,
  ⟨(some 25), (some (20, true)), (.cmp .lss), [.tm 22, .tm 24]⟩,
  ⟨(some 26), (some (14, false)), .and, [.tm 20, .tm 25]⟩,
  ⟨(some 27), none, .or, [.tm 14, .tm 26]⟩,
  ⟨(some 3), none, .mov, [.tm 27]⟩])
 .ret)) }
theorem v60_is : vfunc Try.prog Try.f60 = some v60 := by kernel_rfl
def v37 : VF := { ntmps := 33, res := [.cell 4 true 2], body :=
 (.seq (.region [⟨(some 4), none, (.alloc [(.int .i64 0), (.int .i64 0)]), []⟩])
 (.seq (.seq (.region [⟨(some 7), none, .mov, [.tm 0]⟩,
  ⟨(some 8), none, .len, [.tm 7]⟩,
  ⟨(some 9), none, (.cmp .lss), [.tm 8, .cn (.int .i64 1)]⟩])
 (.cond (.tm 9) .stuck
  .skip))
 (.seq (.region [⟨(some 11), none, .mov, [.tm 0]⟩,
  ⟨(some 12), none, (.idxAddr 2), [.tm 11, .cn (.int .i64 0)]⟩,
  ⟨(some 13), none, (.load true 2), [.tm 12]⟩,
  ⟨(some 5), none, (.alloc [(.int .i64 0), (.int .i64 0)]), []⟩,
  ⟨none, none, (.store 2), [.tm 5, .tm 13]⟩])
 (.seq (.seq (.region [⟨(some 6), none, .mov, [.cn (.int .i64 1)]⟩])
 (.block 0 (.loop (.seq (.seq (.region [⟨(some 14), none, .mov, [.tm 6]⟩,
  ⟨(some 15), none, .mov, [.tm 0]⟩,
  ⟨(some 16), none, .len, [.tm 15]⟩,
  ⟨(some 17), none, (.cmp .lss), [.tm 14, .tm 16]⟩])
 (.cond (.tm 17) .skip
  (.exit 0)))
 (.seq (.block 1 (.seq (.draw [] [⟨⟨(some 20), none, .mov, [.tm 1]⟩, []⟩,
  ⟨⟨(some 21), none, .mov, [.tm 0]⟩, []⟩,
  ⟨⟨(some 22), none, .mov, [.tm 6]⟩, []⟩,
  ⟨⟨(some 23), none, (.idxAddr 2), [.tm 21, .tm 22]⟩, []⟩,
  ⟨⟨(some 24), none, (.load true 2), [.tm 23]⟩, []⟩,
  ⟨⟨(some 25), none, (.load true 2), [.tm 5]⟩, []⟩,
  ⟨⟨(some 26), none, .callv, [.tm 20, .tm 24, .tm 25]⟩, []⟩,
  ⟨⟨(some 27), none, (.cmp .gtr), [.tm 26, .cn (.int .i64 0)]⟩, []⟩])
 (.cond (.tm 27) (.region [⟨(some 28), none, .mov, [.tm 0]⟩,
  ⟨(some 29), none, .mov, [.tm 6]⟩,
  ⟨(some 30), none, (.idxAddr 2), [.tm 28, .tm 29]⟩,
  ⟨(some 31), none, (.load true 2), [.tm 30]⟩,
  ⟨none, none, (.store 2), [.tm 5, .tm 31]⟩])
  .skip)))
 (.region [⟨(some 18), none, .mov, [.tm 6]⟩,
  ⟨(some 19), none, (.ari .add), [.tm 18, .cn (.int .i64 1)]⟩,
  ⟨(some 6), none, .mov, [.tm 19]⟩]))))))
 (.seq (.region [⟨(some 32), none, (.load true 2), [.tm 5]⟩,
  ⟨none, none, (.store 2), [.tm 4, .tm 32]⟩])
 .ret))))) }
theorem v37_is : vfunc Try.prog Try.f37 = some v37 := by kernel_rfl
def v38 : VF := { ntmps := 10, res := [.tmp 4], body :=
 (.seq (.region [⟨(some 2), none, .box, [.tm 0]⟩,
  ⟨(some 3), none, .box, [.tm 1]⟩,
  ⟨(some 4), none, .mov, [.cn (.int .i64 0)]⟩])
 (.seq (.region [⟨(some 5), none, (.fieldAddr 0), [.tm 2]⟩,
  ⟨(some 6), none, (.load false 1), [.tm 5]⟩,
  ⟨(some 7), none, (.fieldAddr 0), [.tm 3]⟩,
  ⟨(some 8), none, (.load false 1), [.tm 7]⟩,
  ⟨(some 9), none, (.ari .sub), [.tm 6, .tm 8]⟩,
  ⟨(some 4), none, .mov, [.tm 9]⟩])
 .ret)) }
theorem v38_is : vfunc Try.prog Try.f38 = some v38 := by kernel_rfl


def encP (p : Plan) : List SV := [.int .i64 p.depth, .int .i64 p.rows, .int .i64 p.first, .bool p.is]

/-! ### The greatest radius -/

def r1C : Ctr := { alias := false, of := fun l => match l with
  | [.agg [.int .i64 a, .int .i64 b], .agg [.int .i64 c, .int .i64 d]] => .pre ((1 ≤ a ∧ a ≤ 1000000) ∧ 1 ≤ c ∧ c ≤ 1000000) (.fin (.int .i64 (a - c)) [])
  | _ => noC }
def I0 : Env := { ct := fun _ => none, fn := fun _ => none, meth := fun _ _ => none }
theorem I0_ok : EnvOk Try.prog I0 := by
  refine ⟨fun f c h => ?_, fun f vf h => ?_, (fun _ _ _ h => by cases h), by kernel_rfl⟩
  · cases h
  · cases h

theorem r1_ok : r1C.ok Try.prog 38 := by
  refine contract Try.func38 v38_is I0_ok 200 r1C fun args k h => ⟨args, ?_⟩
  simp only [r1C] at h
  split at h
  · rename_i a b c d
    refine ⟨by simp [leL, le], ?_⟩
    obtain ⟨⟨ha, hc⟩, h⟩ := h
    dsimp only [v38, go_sem, Option.bind, Option.map, List.append_nil, Nat.beq, List.cons_append, List.nil_append, List.append_eq, List.map_cons, List.map_nil, ite_self, reduceIte]
    simp only [true_and, and_true, imp_self, implies_true, decide_eq_true_eq, decide_eq_false_iff_not, Nat.reduceAdd, Nat.reduceLeDiff, Bool.not_not, reduceCtorEq, false_imp_iff, Bool.not_eq_true', Bool.not_eq_false', Bool.false_eq_true, and_self, forall_const, ne_eq, not_false_eq_true, Nat.reduceEqDiff]
    rw [mid_w (by omega)]
    exact ans_int h
  · exact h.1.elim
/-- The first pipe of the greatest radius. -/
def maxG (l : List Ft) : Ft := l.foldl (fun m f => if m.1 < f.1 then f else m) (l.headD default)
def mxC : Ctr := { alias := false, of := fun l => match l with
  | [.vs _ _ n sz get, .fn (.func g) [] []] => .ex (List Ft) fun l => .pre (lsP 2 encT n sz get l ∧ 0 < l.length ∧ l.length ≤ 1000000 ∧ g = 38 ∧ ∀ f ∈ l, okF f) (.fin (.agg (encT (maxG l))) [])
  | _ => noC }
def I1 : Env := { ct := fun n => match n with | 38 => some r1C | _ => none, fn := fun _ => none, meth := fun _ _ => none }
theorem I1_ct38 : I1.ct 38 = some r1C := rfl
theorem I1_ok : EnvOk Try.prog I1 := by
  refine ⟨fun f c h => ?_, fun f vf h => ?_, (fun _ _ _ h => by cases h), by kernel_rfl⟩
  · simp only [I1] at h
    split at h
    · cases h; exact ⟨r1_ok, Try.f38, Try.func38, by kernel_rfl, by kernel_rfl⟩
    · cases h
  · cases h

theorem maxG_mem (l : List Ft) (i : Nat) (m : Ft) (hm : okF m) (h : ∀ f ∈ l, okF f) : okF ((l.take i).foldl (fun m f => if m.1 < f.1 then f else m) m) := by
  induction i with
  | zero => exact hm
  | succ i ih =>
    rcases Nat.lt_or_ge i l.length with h' | h'
    · rw [foldl_take_succ h']
      split
      · exact h _ (getD_mem h')
      · exact ih
    · rw [take_full (by omega)]; rw [take_full h'] at ih; exact ih
theorem mx_ok : mxC.ok Try.prog 37 := by
  refine contract Try.func37 v37_is I1_ok 200 mxC fun args k h => ?_
  simp only [mxC] at h
  split at h
  · rename_i t z n sz get g
    obtain ⟨l, ⟨⟨rfl, rfl, hg⟩, h0, hmax, rfl, hall⟩, h⟩ := h
    refine ⟨[.vs t z l.length 2 (fun k => encT (l.getD k default)), .fn (.func 38) [] []], ⟨by simpa [le] using hg, by simp [le_fn, bndL, bnd], trivial⟩, ?_⟩
    have h : k (.agg (encT (maxG l))) [] := h
    dsimp only [v37, encT, go_sem, Option.bind, Option.map, List.append_nil, Nat.beq, List.cons_append, List.nil_append, List.append_eq, List.map_cons, List.map_nil, ite_self, reduceIte]
    simp only [true_and, and_true, imp_self, implies_true, decide_eq_true_eq, decide_eq_false_iff_not, Nat.reduceAdd, Nat.reduceLeDiff, Bool.not_not, reduceCtorEq, false_imp_iff, Bool.not_eq_true', Bool.not_eq_false', Bool.false_eq_true, and_self, forall_const, ne_eq, not_false_eq_true, Nat.reduceEqDiff]
    have hhd : l.headD default = l.getD 0 default := by cases l <;> rfl
    have hm0 : okF (l.headD default) := by rw [hhd]; exact hall _ (getD_mem h0)
    obtain ⟨M, hM⟩ : ∃ M : Nat → Ft, M = fun i => (l.take i).foldl (fun m f => if m.1 < f.1 then f else m) (l.headD default) := ⟨_, rfl⟩
    have hMok : ∀ i, okF (M i) := fun i => by rw [hM]; exact maxG_mem l i _ hm0 hall
    have hM1 : M 1 = l.getD 0 default := by
      rw [hM]; dsimp only
      rw [foldl_take_succ (i := 0) h0, List.take_zero, List.foldl_nil, hhd, if_neg (by omega)]
    have hMl : M l.length = maxG l := by rw [hM]; dsimp only; rw [List.take_length]; rfl
    have hMs : ∀ i, i < l.length → M (i + 1) = if (M i).1 < (l.getD i default).1 then l.getD i default else M i := fun i hi => by rw [hM]; exact foldl_take_succ hi
    clear hM
    refine ⟨fun hh => by omega, fun _ => ⟨⟨by decide, by omega⟩, ?_⟩⟩
    refine Loop.keep [0, 0, 2, 0, 0] Nat (fun i => [(6, .int .i64 i)]) (fun i => [(1, .box (encT (M i)))]) [] (fun i => 1 ≤ i ∧ i ≤ l.length) (fun i => l.length - i) ?_ ?_
    · refine ⟨1, ⟨by omega, by omega⟩, ?_⟩
      rw [hM1]
      dsimp only [encT, go_sem, Option.bind, Option.map, List.append_nil, Nat.beq, List.cons_append, List.nil_append, List.append_eq, List.map_cons, List.map_nil, ite_self, reduceIte]
      simp only [leS_mk, leL_cons, leL_nil, le_junk, le_int, le_bool, le_nil, leLL_nil, leLL_cons, leH_cons, leH_nil, leH1_box, leH1_own, leH1_gone, le_vs, le_agg, le_tup, le_ptr, le_own, le_xp, le_fn, le_opt, le_val, le_elem, le_nil_own, le_nil_vs, leH_ghost, leL_chunk, leXL_id, bnd_int, bnd_bool, bnd_val, bnd_nil, bnd_junk, bnd_vs, bnd_xp, bnd_agg, bnd_tup, bnd_ptr, bnd_own, bnd_elem, bnd_fn, bnd_iface, bnd_opt, bndL_nil, bndL_cons, lenH_cons, lenH_nil, imp_self, implies_true, true_and, and_true]
      simp
    · rintro i ⟨hi1, hi⟩
      dsimp only [I1_ct38, r1C, encT, Int.toNat_natCast, go_sem, Option.bind, Option.map, List.append_nil, Nat.beq, List.cons_append, List.nil_append, List.append_eq, List.map_cons, List.map_nil, ite_self, reduceIte]
      simp only [true_and, and_true, imp_self, implies_true, decide_eq_true_eq, decide_eq_false_iff_not, Nat.reduceAdd, Nat.reduceLeDiff, Bool.not_not, reduceCtorEq, false_imp_iff, Bool.not_eq_true', Bool.not_eq_false', Bool.false_eq_true, and_self, forall_const, ne_eq, not_false_eq_true, Nat.reduceEqDiff]
      refine ⟨fun hlt => ⟨⟨by omega, hlt⟩, ⟨(hall _ (getD_mem (by omega))).1, (hMok i).1⟩, fun hb => ⟨⟨by omega, hlt⟩, i + 1, ⟨by omega, by omega⟩, by omega, ?_⟩, fun hb => ⟨i + 1, ⟨by omega, by omega⟩, by omega, ?_⟩⟩, fun hge => ?_⟩
      · rw [hMs i (by omega), if_pos (by omega)]
        simp only [w_succ (i := i) (n := l.length) (by omega) (by omega), leS_mk, leL_cons, leL_nil, le_junk, le_int, le_bool, le_nil, leLL_nil, leLL_cons, leH_cons, leH_nil, leH1_box, leH1_own, leH1_gone, le_vs, le_agg, le_tup, le_ptr, le_own, le_xp, le_fn, le_opt, le_val, le_elem, le_nil_own, le_nil_vs, leH_ghost, leL_chunk, leXL_id, bnd_int, bnd_bool, bnd_val, bnd_nil, bnd_junk, bnd_vs, bnd_xp, bnd_agg, bnd_tup, bnd_ptr, bnd_own, bnd_elem, bnd_fn, bnd_iface, bnd_opt, bndL_nil, bndL_cons, lenH_cons, lenH_nil, imp_self, implies_true, true_and, and_true] <;> simp
      · rw [hMs i (by omega), if_neg (by omega)]
        simp only [w_succ (i := i) (n := l.length) (by omega) (by omega), leS_mk, leL_cons, leL_nil, le_junk, le_int, le_bool, le_nil, leLL_nil, leLL_cons, leH_cons, leH_nil, leH1_box, leH1_own, leH1_gone, le_vs, le_agg, le_tup, le_ptr, le_own, le_xp, le_fn, le_opt, le_val, le_elem, le_nil_own, le_nil_vs, leH_ghost, leL_chunk, leXL_id, bnd_int, bnd_bool, bnd_val, bnd_nil, bnd_junk, bnd_vs, bnd_xp, bnd_agg, bnd_tup, bnd_ptr, bnd_own, bnd_elem, bnd_fn, bnd_iface, bnd_opt, bndL_nil, bndL_cons, lenH_cons, lenH_nil, imp_self, implies_true, true_and, and_true] <;> simp
      · obtain rfl : i = l.length := by omega
        rw [hMl]
        exact ans_a2 h
  · exact h.1.elim

/-! ### The best first row -/

def btC : Ctr := { alias := false, of := fun l => match l with
  | [.agg [.int .i64 a, .int .i64 b, .int .i64 c, .bool d], .xp _ [.int .i64 e, .int .i64 f, .int .i64 g, .bool i]] => .fin (.bool (betterF ⟨a, b, c, d⟩ ⟨e, f, g, i⟩)) []
  | _ => noC }
def I2 : Env := { ct := fun _ => none, fn := fun _ => none, meth := fun _ _ => none }
theorem I2_ok : EnvOk Try.prog I2 := by
  refine ⟨fun f c h => ?_, fun f vf h => ?_, (fun _ _ _ h => by cases h), by kernel_rfl⟩
  · cases h
  · cases h

theorem bt_ok : btC.ok Try.prog 60 := by
  refine contract Try.func60 v60_is I2_ok 200 btC fun args k h => ⟨args, ?_⟩
  simp only [btC] at h
  split at h
  · rename_i a b c d t e f g i
    refine ⟨leL_self _ ⟨⟨trivial, trivial, trivial, trivial, trivial⟩, trivial, trivial⟩, ?_⟩
    have h : k (.bool (betterF ⟨a, b, c, d⟩ ⟨e, f, g, i⟩)) [] := h
    dsimp only [v60, go_sem, Option.bind, Option.map, List.append_nil, Nat.beq, List.cons_append, List.nil_append, List.append_eq, List.map_cons, List.map_nil, ite_self, reduceIte]
    simp only [true_and, and_true, imp_self, implies_true, decide_eq_true_eq, decide_eq_false_iff_not, Nat.reduceAdd, Nat.reduceLeDiff, Bool.not_not, reduceCtorEq, false_imp_iff, Bool.not_eq_true', Bool.not_eq_false', Bool.false_eq_true, and_self, forall_const, ne_eq, not_false_eq_true, Nat.reduceEqDiff]
    unfold betterF at h
    exact ⟨fun x y => by rw [x, decide_eq_true y]; rfl, ans_bool h⟩
  · exact h.1.elim

def besC : Ctr := { alias := false, of := fun l => match l with
  | [.agg [.int .i64 w, .int .i64 d, .int .i64 c, .int .i64 a, .int .i64 s, .vs _ _ n sz get], .vs _ _ n' sz' get', .vs _ _ n2 sz2 get2, .int .i64 i] => .ex Brd fun b => .ex (List Ft) fun l => .ex (List Plan) fun pl => .pre (brdP b w d c a s n sz get ∧ lsP 2 encT n' sz' get' l ∧ lsP 4 encP n2 sz2 get2 pl ∧ (0 ≤ i ∧ i < l.length) ∧ pl.length = l.length + 1 ∧ okB b ∧ (∀ f ∈ l, okF f) ∧ l.length ≤ 200 ∧ ∀ p ∈ pl, okPl p) (.fin (.agg (encP (bestF b (l.drop i.toNat) (pl.drop (i.toNat + 1))))) [])
  | _ => noC }
theorem drop_cons' {α : Type} [Inhabited α] {l : List α} {k : Nat} (h : k < l.length) : l.drop k = l.getD k default :: l.drop (k + 1) := by
  rw [List.getD_eq_getElem?_getD, List.getElem?_eq_getElem h]
  exact List.drop_eq_getElem_cons h
theorem headD_drop {α : Type} [Inhabited α] {l : List α} {k : Nat} : (l.drop k).headD default = l.getD k default := by
  rcases Nat.lt_or_ge k l.length with h | h
  · rw [drop_cons' h]; rfl
  · rw [List.drop_of_length_le h, List.getD_eq_getElem?_getD, List.getElem?_eq_none h]; rfl
theorem best_step {b : Brd} {l : List Ft} {ps : List Plan} {wide deep : Int} {k : Nat} {out : Plan} (h : k < l.length) :
    bestG b (l.drop k) (ps.drop k) wide deep k out = if b.w < wide + (b.c + 2 * (l.getD k default).1) then out else
      bestG b (l.drop (k + 1)) (ps.drop (k + 1)) (wide + (b.c + 2 * (l.getD k default).1)) (max deep (2 * (l.getD k default).1)) (k + 1)
        (if (ps.getD k default).is = false then out else if betterF (candF b (max deep (2 * (l.getD k default).1)) (ps.getD k default) k) out then candF b (max deep (2 * (l.getD k default).1)) (ps.getD k default) k else out) := by
  rw [drop_cons' h, bestG, headD_drop, List.tail_drop]
theorem subLo_eq (n k : Nat) : subLo n k = n - k := by cases k <;> rfl
theorem getD_drop {α : Type} [Inhabited α] {l : List α} {i k : Nat} : (l.drop i).getD k default = l.getD (i + k) default := by
  rw [List.getD_eq_getElem?_getD, List.getElem?_drop, ← List.getD_eq_getElem?_getD]
def I3 : Env := { ct := fun n => match n with | 60 => some btC | _ => none, fn := fun _ => none, meth := fun _ _ => none }
theorem I3_ct60 : I3.ct 60 = some btC := rfl
theorem I3_ok : EnvOk Try.prog I3 := by
  refine ⟨fun f c h => ?_, fun f vf h => ?_, (fun _ _ _ h => by cases h), by kernel_rfl⟩
  · simp only [I3] at h
    split at h
    · cases h; exact ⟨bt_ok, Try.f60, Try.func60, by kernel_rfl, by kernel_rfl⟩
    · cases h
  · cases h

theorem ans_pl {k : SV → List HO → Prop} {al : Bool} {hp : List HO} {p : Plan} (h : k (.agg (encP p)) []) : answers al k (.agg [.int .i64 p.depth, .int .i64 p.rows, .int .i64 p.first, .bool p.is]) hp :=
  ans_le (show k _ [] from h) (le_self (.agg (encP p)) ⟨trivial, trivial, trivial, trivial, trivial⟩) (fun _ => by simp [encP, freshS, freshL])
theorem bes_ok : besC.ok Try.prog 36 := by
  refine contract Try.func36 v36_is I3_ok 400 besC fun args k h => ?_
  simp only [besC] at h
  split at h
  · rename_i w d c a s t z n sz get t' z' n' sz' get' t2 z2 n2 sz2 get2 i
    obtain ⟨b, l, pl, ⟨hbp, ⟨rfl, rfl, hg⟩, ⟨rfl, rfl, hg2⟩, ⟨hi0, hi1⟩, hpl, hb, hl, hlen, hps⟩, h⟩ := h
    obtain ⟨i, rfl⟩ := Int.eq_ofNat_of_zero_le hi0
    simp only [Int.toNat_natCast] at h
    refine ⟨[.agg (encB t z b), .vs t' z' l.length 2 (fun k => encT (l.getD k default)), .vs t2 z2 pl.length 4 (fun k => encP (pl.getD k default)), .int .i64 i], ⟨brd_le hbp, by simpa [le] using hg, by simpa [le] using hg2, ⟨rfl, rfl⟩, trivial⟩, ?_⟩
    have h : k (.agg (encP (bestF b (l.drop i) (pl.drop (i + 1))))) [] := h
    dsimp only [v36, encB, encT, encS, Int.toNat_natCast, go_sem, Option.bind, Option.map, List.append_nil, Nat.beq, List.cons_append, List.nil_append, List.append_eq, List.map_cons, List.map_nil, ite_self, reduceIte]
    simp only [true_and, and_true, imp_self, implies_true, decide_eq_true_eq, decide_eq_false_iff_not, Nat.reduceAdd, Nat.reduceLeDiff, Bool.not_not, reduceCtorEq, false_imp_iff, Bool.not_eq_true', Bool.not_eq_false', Bool.false_eq_true, and_self, forall_const, ne_eq, not_false_eq_true, Nat.reduceEqDiff]
    have hb' := hb
    obtain ⟨⟨w1, w2⟩, _, ⟨c1, c2⟩, _⟩ := hb'
    have hn : IntKind.i64.wrap (0 - b.c) = -b.c := by rw [mid_w (by omega)]; omega
    refine ⟨⟨by omega, by omega⟩, ?_⟩
    rw [hn]
    have hsl : IntKind.i64.wrap 0 = 0 := mid_w (by omega)
    refine Loop.keep [2, 0, 0, 3, 0, 0, 0, 10, 0, 0] (Nat × Int × Int × Plan) (fun x => [(10, .int .i64 x.2.1), (11, .int .i64 x.2.2.1), (24, .int .i64 x.1)]) (fun x => [(1, .box (encP x.2.2.2))]) [] (fun x => x.1 ≤ l.length - i ∧ (-1000000 ≤ x.2.1 ∧ x.2.1 ≤ 3000000 * x.1) ∧ (0 ≤ x.2.2.1 ∧ x.2.2.1 ≤ 2000000) ∧ bestG b ((l.drop i).drop x.1) ((pl.drop (i + 1)).drop x.1) x.2.1 x.2.2.1 x.1 x.2.2.2 = bestF b (l.drop i) (pl.drop (i + 1))) (fun x => l.length - i - x.1) ?_ ?_
    · refine ⟨(0, -b.c, 0, ⟨0, 0, 0, false⟩), ⟨Nat.zero_le _, ⟨by dsimp only; omega, by dsimp only; omega⟩, ⟨Int.le_refl _, by dsimp only; omega⟩, rfl⟩, ?_⟩
      dsimp only [encP, go_sem, Option.bind, Option.map, List.append_nil, Nat.beq, List.cons_append, List.nil_append, List.append_eq, List.map_cons, List.map_nil, ite_self, reduceIte]
      simp only [leS_mk, leL_cons, leL_nil, le_junk, le_int, le_bool, le_nil, leLL_nil, leLL_cons, leH_cons, leH_nil, leH1_box, leH1_own, leH1_gone, le_vs, le_agg, le_tup, le_ptr, le_own, le_xp, le_fn, le_opt, le_val, le_elem, le_nil_own, le_nil_vs, leH_ghost, leL_chunk, leXL_id, bnd_int, bnd_bool, bnd_val, bnd_nil, bnd_junk, bnd_vs, bnd_xp, bnd_agg, bnd_tup, bnd_ptr, bnd_own, bnd_elem, bnd_fn, bnd_iface, bnd_opt, bndL_nil, bndL_cons, lenH_cons, lenH_nil, imp_self, implies_true, true_and, and_true]
      exact ⟨by omega, by omega, by omega, rfl⟩
    · rintro ⟨j, wide, deep, out⟩ ⟨hj, ⟨hw1, hw2⟩, ⟨hd1, hd2⟩, hbest⟩
      dsimp only at hj hw1 hw2 hd1 hd2 hbest
      dsimp only [I3_ct60, btC, encT, encP, Int.toNat_natCast, go_sem, Option.bind, Option.map, List.append_nil, Nat.beq, List.cons_append, List.nil_append, List.append_eq, List.map_cons, List.map_nil, ite_self, reduceIte]
      simp only [true_and, and_true, imp_self, implies_true, decide_eq_true_eq, decide_eq_false_iff_not, Nat.reduceAdd, Nat.reduceLeDiff, Bool.not_not, reduceCtorEq, false_imp_iff, Bool.not_eq_true', Bool.not_eq_false', Bool.false_eq_true, and_self, forall_const, ne_eq, not_false_eq_true, Nat.reduceEqDiff]
      simp only [subLo_eq, addLo_eq]
      refine ⟨fun hlt => ?_, fun hge => ?_⟩
      · have hj' : j < (l.drop i).length := by rw [List.length_drop]; omega
        have hf : okF (l.getD (i + j) default) := hl _ (getD_mem (by omega))
        have hr : okPl (pl.getD (i + j + 1) default) := hps _ (getD_mem (by omega))
        rw [best_step hj', getD_drop, getD_drop, show i + 1 + j = i + j + 1 by omega] at hbest
        have e3 : IntKind.i64.wrap (IntKind.i64.wrap ((i : Int) + (j : Int)) + 1) = ((i + j + 1 : Nat) : Int) := by
          rw [mid_w (x := (i : Int) + j) (by omega), mid_w (by omega)]; omega
        have ej : IntKind.i64.wrap ((j : Int) + 1) = ((j + 1 : Nat) : Int) := by rw [mid_w (by omega)]; omega
        simp only [e3, ej, Int.toNat_natCast]
        generalize l.getD (i + j) default = f at *
        generalize pl.getD (i + j + 1) default = r at *
        obtain ⟨⟨f1, f2⟩, _⟩ := hf
        obtain ⟨⟨r1, r2⟩, ⟨r3, r4⟩, _⟩ := hr
        have e2 : IntKind.i64.wrap (2 * f.1) = 2 * f.1 := mid_w (by omega)
        have e1 : IntKind.i64.wrap (wide + IntKind.i64.wrap (b.c + 2 * f.1)) = wide + (b.c + 2 * f.1) := by
          rw [mid_w (x := b.c + 2 * f.1) (by omega), mid_w (by omega)]
        simp only [e2, e1]
        have e4 : IntKind.i64.wrap (max deep (2 * f.1) + r.depth) = max deep (2 * f.1) + r.depth := mid_w (by omega)
        have e5 : IntKind.i64.wrap (1 + r.rows) = 1 + r.rows := mid_w (by omega)
        have e6 : IntKind.i64.wrap (max deep (2 * f.1) + r.depth + b.c) = max deep (2 * f.1) + r.depth + b.c := mid_w (by omega)
        simp only [e4, e5, e6]
        refine ⟨⟨by omega, hlt⟩, fun hb => ?_, fun hb => ⟨⟨by omega, by omega⟩, fun hi => ?_, fun hi => ?_⟩⟩
        · rw [if_pos hb] at hbest
          rw [← hbest] at h
          exact ans_pl h
        · rw [if_neg hb, if_pos hi] at hbest
          refine ⟨(j + 1, wide + (b.c + 2 * f.1), max deep (2 * f.1), out), ⟨by dsimp only; omega, ⟨by dsimp only; omega, by dsimp only; omega⟩, ⟨by dsimp only; omega, by dsimp only; omega⟩, hbest⟩, by dsimp only; omega, ?_⟩
          simp only [leS_mk, leL_cons, leL_nil, le_junk, le_int, le_bool, le_nil, leLL_nil, leLL_cons, leH_cons, leH_nil, leH1_box, leH1_own, leH1_gone, le_vs, le_agg, le_tup, le_ptr, le_own, le_xp, le_fn, le_opt, le_val, le_elem, le_nil_own, le_nil_vs, leH_ghost, leL_chunk, leXL_id, bnd_int, bnd_bool, bnd_val, bnd_nil, bnd_junk, bnd_vs, bnd_xp, bnd_agg, bnd_tup, bnd_ptr, bnd_own, bnd_elem, bnd_fn, bnd_iface, bnd_opt, bndL_nil, bndL_cons, lenH_cons, lenH_nil, imp_self, implies_true, true_and, and_true]
          omega
        · rw [if_neg hb, if_neg (by rw [hi]; simp)] at hbest
          refine ⟨fun hp => ?_, fun hp => ?_⟩
          · have hC : candF b (max deep (2 * f.1)) r j = ⟨max deep (2 * f.1) + r.depth + b.c, 1 + r.rows, ((j + 1 : Nat) : Int), true⟩ := by
              unfold candF; rw [if_pos hp]; rfl
            rw [hC] at hbest
            refine ⟨fun hbt => ?_, fun hbt => ?_⟩
            · rw [if_pos (show betterF _ out = true from hbt)] at hbest
              refine ⟨(j + 1, wide + (b.c + 2 * f.1), max deep (2 * f.1), _), ⟨by dsimp only; omega, ⟨by dsimp only; omega, by dsimp only; omega⟩, ⟨by dsimp only; omega, by dsimp only; omega⟩, hbest⟩, by dsimp only; omega, ?_⟩
              simp only [leS_mk, leL_cons, leL_nil, le_junk, le_int, le_bool, le_nil, leLL_nil, leLL_cons, leH_cons, leH_nil, leH1_box, leH1_own, leH1_gone, le_vs, le_agg, le_tup, le_ptr, le_own, le_xp, le_fn, le_opt, le_val, le_elem, le_nil_own, le_nil_vs, leH_ghost, leL_chunk, leXL_id, bnd_int, bnd_bool, bnd_val, bnd_nil, bnd_junk, bnd_vs, bnd_xp, bnd_agg, bnd_tup, bnd_ptr, bnd_own, bnd_elem, bnd_fn, bnd_iface, bnd_opt, bndL_nil, bndL_cons, lenH_cons, lenH_nil, imp_self, implies_true, true_and, and_true]
              omega
            · rw [if_neg (show ¬ betterF _ out = true by intro hh; have hbt : betterF _ out = false := hbt; rw [hh] at hbt; cases hbt)] at hbest
              refine ⟨(j + 1, wide + (b.c + 2 * f.1), max deep (2 * f.1), out), ⟨by dsimp only; omega, ⟨by dsimp only; omega, by dsimp only; omega⟩, ⟨by dsimp only; omega, by dsimp only; omega⟩, hbest⟩, by dsimp only; omega, ?_⟩
              simp only [leS_mk, leL_cons, leL_nil, le_junk, le_int, le_bool, le_nil, leLL_nil, leLL_cons, leH_cons, leH_nil, leH1_box, leH1_own, leH1_gone, le_vs, le_agg, le_tup, le_ptr, le_own, le_xp, le_fn, le_opt, le_val, le_elem, le_nil_own, le_nil_vs, leH_ghost, leL_chunk, leXL_id, bnd_int, bnd_bool, bnd_val, bnd_nil, bnd_junk, bnd_vs, bnd_xp, bnd_agg, bnd_tup, bnd_ptr, bnd_own, bnd_elem, bnd_fn, bnd_iface, bnd_opt, bndL_nil, bndL_cons, lenH_cons, lenH_nil, imp_self, implies_true, true_and, and_true]
              omega
          · have hC : candF b (max deep (2 * f.1)) r j = ⟨max deep (2 * f.1) + r.depth, 1 + r.rows, ((j + 1 : Nat) : Int), true⟩ := by
              unfold candF; rw [if_neg hp, Int.add_zero]; rfl
            rw [hC] at hbest
            refine ⟨fun hbt => ?_, fun hbt => ?_⟩
            · rw [if_pos (show betterF _ out = true from hbt)] at hbest
              refine ⟨(j + 1, wide + (b.c + 2 * f.1), max deep (2 * f.1), _), ⟨by dsimp only; omega, ⟨by dsimp only; omega, by dsimp only; omega⟩, ⟨by dsimp only; omega, by dsimp only; omega⟩, hbest⟩, by dsimp only; omega, ?_⟩
              simp only [leS_mk, leL_cons, leL_nil, le_junk, le_int, le_bool, le_nil, leLL_nil, leLL_cons, leH_cons, leH_nil, leH1_box, leH1_own, leH1_gone, le_vs, le_agg, le_tup, le_ptr, le_own, le_xp, le_fn, le_opt, le_val, le_elem, le_nil_own, le_nil_vs, leH_ghost, leL_chunk, leXL_id, bnd_int, bnd_bool, bnd_val, bnd_nil, bnd_junk, bnd_vs, bnd_xp, bnd_agg, bnd_tup, bnd_ptr, bnd_own, bnd_elem, bnd_fn, bnd_iface, bnd_opt, bndL_nil, bndL_cons, lenH_cons, lenH_nil, imp_self, implies_true, true_and, and_true]
              omega
            · rw [if_neg (show ¬ betterF _ out = true by intro hh; have hbt : betterF _ out = false := hbt; rw [hh] at hbt; cases hbt)] at hbest
              refine ⟨(j + 1, wide + (b.c + 2 * f.1), max deep (2 * f.1), out), ⟨by dsimp only; omega, ⟨by dsimp only; omega, by dsimp only; omega⟩, ⟨by dsimp only; omega, by dsimp only; omega⟩, hbest⟩, by dsimp only; omega, ?_⟩
              simp only [leS_mk, leL_cons, leL_nil, le_junk, le_int, le_bool, le_nil, leLL_nil, leLL_cons, leH_cons, leH_nil, leH1_box, leH1_own, leH1_gone, le_vs, le_agg, le_tup, le_ptr, le_own, le_xp, le_fn, le_opt, le_val, le_elem, le_nil_own, le_nil_vs, leH_ghost, leL_chunk, leXL_id, bnd_int, bnd_bool, bnd_val, bnd_nil, bnd_junk, bnd_vs, bnd_xp, bnd_agg, bnd_tup, bnd_ptr, bnd_own, bnd_elem, bnd_fn, bnd_iface, bnd_opt, bndL_nil, bndL_cons, lenH_cons, lenH_nil, imp_self, implies_true, true_and, and_true]
              omega
      · have hj' : j = (l.drop i).length := by rw [List.length_drop]; omega
        rw [hj', List.drop_of_length_le (Nat.le_refl _), bestG] at hbest
        rw [← hbest] at h
        exact ans_pl h
  · exact h.1.elim
end Go.Proofs.Ytojaibhjfeojjaa

/- Layouts, walked: Rows. -/
set_option linter.all false
namespace Go.Proofs.Ytojaibhjfeojjaa
open Go Go.Vx
set_option maxRecDepth 100000
set_option maxHeartbeats 4000000

def v11 : VF := { ntmps := 130, res := [.tmp 4, .tmp 5], body :=
 (.seq (.region [⟨(some 2), none, .box, [.tm 0]⟩,
  ⟨(some 4), none, .mov, [.cn .nil]⟩,
  ⟨(some 5), none, .mov, [.cn (.int .i64 0)]⟩])
 (.seq (.block 0 (.seq (.region [⟨(some 17), none, (.fieldAddr 5), [.tm 2]⟩,
  ⟨(some 18), none, (.load false 1), [.tm 17]⟩,
  ⟨(some 19), none, .len, [.tm 18]⟩,
  ⟨(some 20), none, (.cmp .gtr), [.tm 19, .cn (.int .i64 8)]⟩,
  ⟨(some 21), none, .mov, [.tm 20]⟩,
  ⟨(some 22), (some (21, false)), .mov, [.tm 1]⟩,
  ⟨(some 23), (some (21, false)), .len, [.tm 22]⟩,
  ⟨(some 24), (some (21, false)), (.cmp .gtr), [.tm 23, .cn (.int .i64 200)]⟩,
  ⟨(some 25), none, .or, [.tm 21, .tm 24]⟩,
  ⟨(some 16), none, .mov, [.tm 25]⟩])
 (.cond (.tm 16) (.seq (.region [⟨(some 4), none, .mov, [.cn .nil]⟩,
  ⟨(some 5), none, .mov, [.cn (.int .i64 3)]⟩])
 .ret)
  (.seq (.region [⟨(some 27), none, (.load true 6), [.tm 2]⟩,
  ⟨(some 28), none, (.call 33), [.tm 27]⟩,
  ⟨(some 29), none, .mov, [.tm 28]⟩,
  ⟨(some 30), (some (29, false)), .mov, [.tm 1]⟩,
  ⟨(some 31), (some (29, false)), (.call 34), [.tm 30, .cn (.fn (.func 35) [] [])]⟩,
  ⟨(some 32), none, .or, [.tm 29, .tm 31]⟩,
  ⟨(some 26), none, .mov, [.tm 32]⟩])
 (.cond (.tm 26) (.seq (.region [⟨(some 4), none, .mov, [.cn .nil]⟩,
  ⟨(some 5), none, .mov, [.cn (.int .i64 2)]⟩])
 .ret)
  .skip)))))
 (.seq (.region [⟨(some 33), none, .mov, [.tm 1]⟩,
  ⟨(some 34), none, .len, [.tm 33]⟩,
  ⟨(some 35), none, (.ari .add), [.tm 34, .cn (.int .i64 1)]⟩,
  ⟨(some 36), none, (.make 4 32 [(.int .i64 0), (.int .i64 0), (.int .i64 0), (.bool false)]), [.tm 35, .tm 35]⟩,
  ⟨(some 6), none, .mov, [.tm 36]⟩])
 (.seq (.region [⟨(some 37), none, .mov, [.tm 6]⟩,
  ⟨(some 38), none, .mov, [.tm 1]⟩,
  ⟨(some 39), none, .len, [.tm 38]⟩,
  ⟨(some 40), none, (.idxAddr 4), [.tm 37, .tm 39]⟩,
  ⟨(some 41), none, (.fieldAddr 3), [.tm 40]⟩,
  ⟨none, none, (.store 1), [.tm 41, .cn (.bool true)]⟩])
 (.seq (.seq (.region [⟨(some 42), none, .mov, [.tm 1]⟩,
  ⟨(some 43), none, .len, [.tm 42]⟩,
  ⟨(some 44), none, (.ari .sub), [.tm 43, .cn (.int .i64 1)]⟩,
  ⟨(some 7), none, .mov, [.tm 44]⟩])
 (.block 1 (.loop (.seq (.seq (.region [⟨(some 45), none, .mov, [.tm 7]⟩,
  ⟨(some 46), none, (.cmp .geq), [.tm 45, .cn (.int .i64 0)]⟩])
 (.cond (.tm 46) .skip
  (.exit 1)))
 (.seq (.block 2 (.region [⟨(some 49), none, .mov, [.tm 6]⟩,
  ⟨(some 50), none, .mov, [.tm 7]⟩,
  ⟨(some 51), none, (.load true 6), [.tm 2]⟩,
  ⟨(some 52), none, .mov, [.tm 1]⟩,
  ⟨(some 53), none, .mov, [.tm 6]⟩,
  ⟨(some 54), none, .mov, [.tm 7]⟩,
  ⟨(some 55), none, (.call 36), [.tm 51, .tm 52, .tm 53, .tm 54]⟩,
  ⟨(some 56), none, (.idxAddr 4), [.tm 49, .tm 50]⟩,
  ⟨none, none, (.store 4), [.tm 56, .tm 55]⟩]))
 (.region [⟨(some 47), none, .mov, [.tm 7]⟩,
  ⟨(some 48), none, (.ari .sub), [.tm 47, .cn (.int .i64 1)]⟩,
  ⟨(some 7), none, .mov, [.tm 48]⟩]))))))
 (.seq (.seq (.draw [] [⟨⟨(some 57), none, .mov, [.tm 6]⟩, []⟩,
  ⟨⟨(some 58), none, (.idxAddr 4), [.tm 57, .cn (.int .i64 0)]⟩, []⟩,
  ⟨⟨(some 59), none, (.fieldAddr 3), [.tm 58]⟩, []⟩,
  ⟨⟨(some 60), none, (.load false 1), [.tm 59]⟩, []⟩,
  ⟨⟨(some 61), none, .not, [.tm 60]⟩, []⟩,
  ⟨⟨(some 62), none, .mov, [.tm 61]⟩, []⟩,
  ⟨⟨(some 63), (some (62, false)), .mov, [.tm 6]⟩, []⟩,
  ⟨⟨(some 64), (some (62, false)), (.idxAddr 4), [.tm 63, .cn (.int .i64 0)]⟩, []⟩,
  ⟨⟨(some 65), (some (62, false)), (.fieldAddr 0), [.tm 64]⟩, []⟩,
  ⟨⟨(some 66), (some (62, false)), (.load false 1), [.tm 65]⟩, []⟩,
  ⟨⟨(some 67), (some (62, false)), (.fieldAddr 1), [.tm 2]⟩, []⟩,
  ⟨⟨(some 68), (some (62, false)), (.load false 1), [.tm 67]⟩, []⟩,
  ⟨⟨(some 69), (some (62, false)), (.cmp .gtr), [.tm 66, .tm 68]⟩, []⟩,
  ⟨⟨(some 70), none, .or, [.tm 62, .tm 69]⟩, []⟩])
 (.cond (.tm 70) (.seq (.region [⟨(some 4), none, .mov, [.cn .nil]⟩,
  ⟨(some 5), none, .mov, [.cn (.int .i64 4)]⟩])
 .ret)
  .skip))
 (.seq (.region [⟨(some 8), none, .mov, [.cn .nil]⟩])
 (.seq (.region [⟨(some 9), none, .mov, [.cn (.int .i64 0)]⟩])
 (.seq (.seq (.region [⟨(some 10), none, .mov, [.cn (.int .i64 0)]⟩])
 (.block 3 (.loop (.seq (.seq (.region [⟨(some 71), none, .mov, [.tm 10]⟩,
  ⟨(some 72), none, .mov, [.tm 1]⟩,
  ⟨(some 73), none, .len, [.tm 72]⟩,
  ⟨(some 74), none, (.cmp .lss), [.tm 71, .tm 73]⟩])
 (.cond (.tm 74) .skip
  (.exit 3)))
 (.block 4 (.seq (.region [⟨(some 75), none, .mov, [.tm 1]⟩,
  ⟨(some 76), none, .mov, [.tm 10]⟩,
  ⟨(some 77), none, .mov, [.tm 10]⟩,
  ⟨(some 78), none, .mov, [.tm 6]⟩,
  ⟨(some 79), none, .mov, [.tm 10]⟩,
  ⟨(some 80), none, (.idxAddr 4), [.tm 78, .tm 79]⟩,
  ⟨(some 81), none, (.fieldAddr 2), [.tm 80]⟩,
  ⟨(some 82), none, (.load false 1), [.tm 81]⟩,
  ⟨(some 83), none, (.ari .add), [.tm 77, .tm 82]⟩,
  ⟨(some 84), none, (.slice 2 true true), [.tm 75, .tm 76, .tm 83]⟩,
  ⟨(some 11), none, .mov, [.tm 84]⟩])
 (.seq (.region [⟨(some 85), none, .mov, [.tm 11]⟩,
  ⟨(some 86), none, (.call 37), [.tm 85, .cn (.fn (.func 38) [] [])]⟩,
  ⟨(some 87), none, (.field false 0 1), [.tm 86]⟩,
  ⟨(some 12), none, .mov, [.tm 87]⟩])
 (.seq (.region [⟨(some 13), none, .mov, [.cn (.int .i64 0)]⟩])
 (.seq (.seq (.region [⟨(some 88), none, .mov, [.tm 11]⟩,
  ⟨(some 89), none, .len, [.tm 88]⟩,
  ⟨(some 90), none, .mov, [.cn (.int .i64 0)]⟩])
 (.block 5 (.loop (.seq (.region [⟨(some 91), none, (.cmp .lss), [.tm 90, .tm 89]⟩])
 (.seq (.cond (.tm 91) .skip
  (.exit 5))
 (.seq (.block 6 (.seq (.region [⟨(some 92), none, (.idxAddr 2), [.tm 88, .tm 90]⟩,
  ⟨(some 93), none, (.load true 2), [.tm 92]⟩,
  ⟨(some 15), none, (.alloc [(.int .i64 0), (.int .i64 0)]), []⟩,
  ⟨none, none, (.store 2), [.tm 15, .tm 93]⟩])
 (.seq (.region [⟨(some 94), none, .mov, [.tm 8]⟩,
  ⟨(some 95), none, .mov, [.tm 13]⟩,
  ⟨(some 96), none, (.fieldAddr 0), [.tm 15]⟩,
  ⟨(some 97), none, (.load false 1), [.tm 96]⟩,
  ⟨(some 98), none, (.ari .add), [.tm 95, .tm 97]⟩,
  ⟨(some 99), none, .mov, [.tm 9]⟩,
  ⟨(some 100), none, .mov, [.tm 12]⟩,
  ⟨(some 101), none, (.ari .add), [.tm 99, .tm 100]⟩,
  ⟨(some 102), none, (.fieldAddr 0), [.tm 15]⟩,
  ⟨(some 103), none, (.load false 1), [.tm 102]⟩,
  ⟨(some 104), none, (.fieldAddr 1), [.tm 15]⟩,
  ⟨(some 105), none, (.load false 1), [.tm 104]⟩,
  ⟨(some 106), none, (.build [(.int .i64 0), (.int .i64 0), (.int .i64 0), (.int .i64 0)] [(0, 1), (1, 1), (2, 1), (3, 1)]), [.tm 98, .tm 101, .tm 103, .tm 105]⟩,
  ⟨(some 107), none, (.buildSlice 4 1 [(.int .i64 0), (.int .i64 0), (.int .i64 0), (.int .i64 0)] [(0, 4)]), [.tm 106]⟩,
  ⟨(some 108), none, (.append 4 32 [(.int .i64 0), (.int .i64 0), (.int .i64 0), (.int .i64 0)]), [.tm 94, .tm 107]⟩,
  ⟨(some 8), none, .mov, [.tm 108]⟩])
 (.region [⟨(some 109), none, .mov, [.tm 13]⟩,
  ⟨(some 110), none, (.fieldAddr 0), [.tm 15]⟩,
  ⟨(some 111), none, (.load false 1), [.tm 110]⟩,
  ⟨(some 112), none, (.ari .mul), [.cn (.int .i64 2), .tm 111]⟩,
  ⟨(some 113), none, (.fieldAddr 2), [.tm 2]⟩,
  ⟨(some 114), none, (.load false 1), [.tm 113]⟩,
  ⟨(some 115), none, (.ari .add), [.tm 112, .tm 114]⟩,
  ⟨(some 116), none, (.ari .add), [.tm 109, .tm 115]⟩,
  ⟨(some 13), none, .mov, [.tm 116]⟩]))))
 (.region [⟨(some 117), none, (.ari .add), [.tm 90, .cn (.int .i64 1)]⟩,
  ⟨(some 90), none, .mov, [.tm 117]⟩])))))))
 (.seq (.region [⟨(some 118), none, .mov, [.tm 9]⟩,
  ⟨(some 119), none, .mov, [.tm 12]⟩,
  ⟨(some 120), none, (.ari .mul), [.cn (.int .i64 2), .tm 119]⟩,
  ⟨(some 121), none, (.fieldAddr 2), [.tm 2]⟩,
  ⟨(some 122), none, (.load false 1), [.tm 121]⟩,
  ⟨(some 123), none, (.ari .add), [.tm 120, .tm 122]⟩,
  ⟨(some 124), none, (.ari .add), [.tm 118, .tm 123]⟩,
  ⟨(some 9), none, .mov, [.tm 124]⟩])
 (.region [⟨(some 125), none, .mov, [.tm 10]⟩,
  ⟨(some 126), none, .mov, [.tm 11]⟩,
  ⟨(some 127), none, .len, [.tm 126]⟩,
  ⟨(some 128), none, (.ari .add), [.tm 125, .tm 127]⟩,
  ⟨(some 10), none, .mov, [.tm 128]⟩])))))))))))
 (.seq (.region [⟨(some 129), none, .mov, [.tm 8]⟩,
  ⟨(some 4), none, .mov, [.tm 129]⟩,
  ⟨(some 5), none, .mov, [.cn (.int .i64 0)]⟩])
 .ret)))))))))) }
theorem v11_is : vfunc Try.prog Try.f11 = some v11 := by kernel_rfl


def lsS (l : List Std) : SV := .vs true (decide (l.length = 0)) l.length 4 (fun k => encS (l.getD k default))
def rowC : Ctr := { alias := false, of := fun l => match l with
  | [.agg [.int .i64 w, .int .i64 d, .int .i64 c, .int .i64 a, .int .i64 s, .vs _ _ n sz get], .vs _ _ n' sz' get'] => .ex Brd fun b => .ex (List Ft) fun l => .pre (brdP b w d c a s n sz get ∧ lsP 2 encT n' sz' get' l ∧ l.length ≤ 1000000000000) (.fin (.tup [lsS (rowsR b l).1, .int .i64 (rowsR b l).2]) [])
  | _ => noC }
def J0 : Env := { ct := fun n => match n with | 33 => some wrC | 34 => some anyFC | 36 => some besC | 37 => some mxC | _ => none, fn := fun _ => none, meth := fun _ _ => none }
theorem J0_ct33 : J0.ct 33 = some wrC := rfl
theorem J0_ct34 : J0.ct 34 = some anyFC := rfl
theorem J0_ct36 : J0.ct 36 = some besC := rfl
theorem J0_ct37 : J0.ct 37 = some mxC := rfl
theorem J0_ok : EnvOk Try.prog J0 := by
  refine ⟨fun f c h => ?_, fun f vf h => ?_, (fun _ _ _ h => by cases h), by kernel_rfl⟩
  · simp only [J0] at h
    split at h
    · cases h; exact ⟨wr_ok, Try.f33, Try.func33, by kernel_rfl, by kernel_rfl⟩
    · cases h; exact ⟨anyF_ok, Try.f34, Try.func34, by kernel_rfl, by kernel_rfl⟩
    · cases h; exact ⟨bes_ok, Try.f36, Try.func36, by kernel_rfl, by kernel_rfl⟩
    · cases h; exact ⟨mx_ok, Try.f37, Try.func37, by kernel_rfl, by kernel_rfl⟩
    · cases h
  · cases h

theorem ans_lsn {k : SV → List HO → Prop} {al : Bool} {hp : List HO} {e : Int} (h : k (.tup [lsS [], .int .i64 e]) []) : answers al k (.tup [.nil, .int .i64 e]) hp :=
  ans_le h (by simp [expo, view, viewL, lsS, le, leL]) (fun _ => by simp [lsS, freshS, freshL])
theorem askF_ok {b : Brd} {l : List Ft} (h : askF b l = 0) : okB b ∧ (∀ f ∈ l, okF f) ∧ l.length ≤ 200 := by
  unfold askF at h
  split at h
  · cases h
  · split at h
    · cases h
    · rename_i h1 h2
      rw [Bool.not_eq_true, Bool.or_eq_false_iff] at h2
      refine ⟨wrongF_no (by omega) h2.1, fun p hp => ?_, by omega⟩
      have := List.any_eq_false.1 h2.2 p hp
      simp only [footF, Bool.not_eq_true, Bool.or_eq_false_iff, outF_no] at this
      exact this
def zP : Plan := ⟨0, 0, 0, false⟩
/-- The plans when those from n on are known. -/
def plG (b : Brd) (l : List Ft) (n : Nat) : List Plan := List.replicate n zP ++ plansF b (l.drop n)
theorem plG_len {b : Brd} {l : List Ft} {n : Nat} (h : n ≤ l.length) : (plG b l n).length = l.length + 1 := by
  rw [plG, List.length_append, List.length_replicate, plans_len, List.length_drop]; omega
theorem plG_drop {b : Brd} {l : List Ft} {n : Nat} : (plG b l n).drop n = plansF b (l.drop n) := by
  rw [plG]
  have := List.drop_left (l₁ := List.replicate n zP) (l₂ := plansF b (l.drop n))
  rwa [List.length_replicate] at this
theorem plG_get {b : Brd} {l : List Ft} {n k : Nat} (h : n ≤ l.length) (hk : k ≤ l.length) : (plG b l n).getD k default = if k < n then zP else headP b (l.drop k) := by
  rw [plG, List.getD_eq_getElem?_getD]
  split
  · rename_i hkn
    rw [List.getElem?_append_left (by rw [List.length_replicate]; exact hkn), List.getElem?_replicate, if_pos hkn]; rfl
  · rename_i hkn
    rw [List.getElem?_append_right (by rw [List.length_replicate]; omega), List.length_replicate, ← List.getD_eq_getElem?_getD, plans_get b (by rw [List.length_drop]; omega), List.drop_drop, show n + (k - n) = k by omega]
theorem plG_ok {b : Brd} (hb : okB b) {l : List Ft} {n : Nat} (hn : l.length ≤ 200) (hl : ∀ f ∈ l, okF f) : ∀ p ∈ plG b l n, okPl p := by
  intro p hp
  rcases List.mem_append.1 hp with hp | hp
  · rw [List.eq_of_mem_replicate hp]; simp [okPl, zP]
  · exact plans_ok hb.2.2.1 (by rw [List.length_drop]; omega) (fun f hf => hl f (List.mem_of_mem_drop hf)) p hp
theorem plG_head {b : Brd} {l : List Ft} {i : Nat} (h : i < l.length) : bestF b (l.drop i) ((plG b l (i + 1)).drop (i + 1)) = headP b (l.drop i) := by
  rw [plG_drop, drop_cons' h]; rfl

theorem row_ok : rowC.ok Try.prog 11 := by
  refine contract Try.func11 v11_is J0_ok 400 rowC fun args k h => ?_
  simp only [rowC] at h
  split at h
  · rename_i w d c a s t z n sz get t' z' n' sz' get'
    obtain ⟨b, l, ⟨hbp, ⟨rfl, rfl, hg⟩, hbig⟩, h⟩ := h
    refine ⟨[.agg (encB t z b), .vs t' z' l.length 2 (fun k => encT (l.getD k default))], ⟨brd_le hbp, by simpa [le] using hg, trivial⟩, ?_⟩
    have h : k (.tup [lsS (rowsR b l).1, .int .i64 (rowsR b l).2]) [] := h
    dsimp only [v11, J0_ct33, J0_ct34, wrC, anyFC, anyC, encB, encT, encS, go_sem, Option.bind, Option.map, List.append_nil, Nat.beq, List.cons_append, List.nil_append, List.append_eq, List.map_cons, List.map_nil, ite_self, reduceIte]
    simp only [true_and, and_true, imp_self, implies_true, decide_eq_true_eq, decide_eq_false_iff_not, Nat.reduceAdd, Nat.reduceLeDiff, Bool.not_not, reduceCtorEq, false_imp_iff, Bool.not_eq_true', Bool.not_eq_false', Bool.false_eq_true, and_self, forall_const, ne_eq, not_false_eq_true, Nat.reduceEqDiff]
    unfold rowsR at h
    refine ⟨fun hb => ?_, fun hb => ?_⟩
    · simp only [Bool.or_eq_true, decide_eq_true_eq] at hb
      have e : askF b l = 3 := by rw [askF, if_pos (by omega)]
      rw [e, if_pos (by decide)] at h
      exact ans_lsn h
    · simp only [Bool.or_eq_false_iff, decide_eq_false_iff_not] at hb
      refine ⟨b, ⟨brdP_self b, by omega⟩, l, footP, fun _ => ⟨lsP_self, by omega, rfl, rfl, rfl⟩, fun hc => ?_, fun hc => ?_⟩
      · have e : askF b l = 2 := by rw [askF, if_neg (by omega)]; exact if_pos hc
        rw [e, if_pos (by decide)] at h
        exact ans_lsn h
      · have e : askF b l = 0 := by rw [askF, if_neg (by omega)]; exact if_neg (by intro hh; have hc : (wrongF b || l.any fun f => footF f.1 f.2) = false := hc; rw [hc] at hh; cases hh)
        obtain ⟨hbo, hlo, hlen⟩ := askF_ok e
        rw [e, if_neg (by decide)] at h
        have ew : IntKind.i64.wrap ((l.length : Int) + 1) = ((l.length + 1 : Nat) : Int) := by rw [mid_w (by omega)]; omega
        rw [ew]
        simp only [Int.toNat_natCast]
        refine ⟨⟨by decide, by omega, by omega, by unfold capOk; omega⟩, ⟨by omega, by omega⟩, by omega, ?_⟩
        refine Loop.keep [1, 0, 3, 0] Nat (fun n => [(7, .int .i64 ((n : Int) - 1))]) (fun n => [(1, .own false 4 (l.length + 1) (fun k => encP ((plG b l n).getD k default)))]) [] (fun n => n ≤ l.length) (fun n => n) ?_ ?_
        · refine ⟨l.length, Nat.le_refl _, ?_⟩
          dsimp only [go_sem, Option.bind, Option.map, List.append_nil, Nat.beq, List.cons_append, List.nil_append, List.append_eq, List.map_cons, List.map_nil, ite_self, reduceIte]
          simp only [leS_mk, leL_cons, leL_nil, le_junk, le_int, le_bool, le_nil, leLL_nil, leLL_cons, leH_cons, leH_nil, leH1_box, leH1_own, leH1_gone, le_vs, le_agg, le_tup, le_ptr, le_own, le_xp, le_fn, le_opt, le_val, le_elem, le_nil_own, le_nil_vs, leH_ghost, leL_chunk, leXL_id, bnd_int, bnd_bool, bnd_val, bnd_nil, bnd_junk, bnd_vs, bnd_xp, bnd_agg, bnd_tup, bnd_ptr, bnd_own, bnd_elem, bnd_fn, bnd_iface, bnd_opt, bndL_nil, bndL_cons, lenH_cons, lenH_nil, imp_self, implies_true, true_and, and_true]
          rw [mid_w (by omega)]
          refine ⟨by omega, fun q hq => ?_⟩
          rw [plG_get (Nat.le_refl _) (by omega)]
          by_cases hql : q = l.length
          · subst hql
            rw [if_pos rfl, if_neg (by omega), List.drop_of_length_le (Nat.le_refl _), plans_nil]
            exact leL_self [.int _ _, .int _ _, .int _ _, .bool _] ⟨trivial, trivial, trivial, trivial, trivial⟩
          · rw [if_neg hql, if_pos (by omega)]
            exact leL_self [.int _ _, .int _ _, .int _ _, .bool _] ⟨trivial, trivial, trivial, trivial, trivial⟩
        · rintro n hn
          dsimp only [J0_ct36, besC, encT, encP, Int.toNat_natCast, go_sem, Option.bind, Option.map, List.append_nil, Nat.beq, List.cons_append, List.nil_append, List.append_eq, List.map_cons, List.map_nil, ite_self, reduceIte]
          simp only [true_and, and_true, imp_self, implies_true, decide_eq_true_eq, decide_eq_false_iff_not, Nat.reduceAdd, Nat.reduceLeDiff, Bool.not_not, reduceCtorEq, false_imp_iff, Bool.not_eq_true', Bool.not_eq_false', Bool.false_eq_true, and_self, forall_const, ne_eq, not_false_eq_true, Nat.reduceEqDiff]
          refine ⟨fun hlt => ?_, fun hge => ?_⟩
          · obtain ⟨i, rfl⟩ : ∃ i, n = i + 1 := ⟨n - 1, by omega⟩
            have ei : ((i + 1 : Nat) : Int) - 1 = (i : Int) := by omega
            rw [ei]
            simp only [Int.toNat_natCast]
            refine ⟨b, l, plG b l (i + 1), ⟨brdP_self b, lsP_self, ⟨rfl, (plG_len hn).symm, fun q _ => leXL_self _⟩, ⟨by omega, by omega⟩, plG_len hn, hbo, hlo, hlen, plG_ok hbo hlen hlo⟩, ?_⟩
            rw [plG_head (by omega)]
            refine ⟨⟨by omega, by omega⟩, by omega, i, by omega, by omega, ?_⟩
            have ej : IntKind.i64.wrap ((i : Int) - 1) = (i : Int) - 1 := mid_w (by omega)
            simp only [ej, leS_mk, leL_cons, leL_nil, le_junk, le_int, le_bool, le_nil, leLL_nil, leLL_cons, leH_cons, leH_nil, leH1_box, leH1_own, leH1_gone, le_vs, le_agg, le_tup, le_ptr, le_own, le_xp, le_fn, le_opt, le_val, le_elem, le_nil_own, le_nil_vs, leH_ghost, leL_chunk, leXL_id, bnd_int, bnd_bool, bnd_val, bnd_nil, bnd_junk, bnd_vs, bnd_xp, bnd_agg, bnd_tup, bnd_ptr, bnd_own, bnd_elem, bnd_fn, bnd_iface, bnd_opt, bndL_nil, bndL_cons, lenH_cons, lenH_nil, imp_self, implies_true, true_and, and_true]
            refine ⟨by omega, fun q hq => ?_⟩
            rw [plG_get (n := i) (by omega) (by omega)]
            by_cases hqi : q = i
            · subst hqi
              rw [if_pos rfl, if_neg (by omega)]
              exact leL_self [.int _ _, .int _ _, .int _ _, .bool _] ⟨trivial, trivial, trivial, trivial, trivial⟩
            · rw [if_neg hqi, plG_get (n := i + 1) (by omega) (by omega)]
              by_cases hqn : q < i
              · rw [if_pos hqn, if_pos (by omega)]
                exact leL_self [.int _ _, .int _ _, .int _ _, .bool _] ⟨trivial, trivial, trivial, trivial, trivial⟩
              · rw [if_neg hqn, if_neg (by omega)]
                exact leL_self [.int _ _, .int _ _, .int _ _, .bool _] ⟨trivial, trivial, trivial, trivial, trivial⟩
          · obtain rfl : n = 0 := by omega
            have e0 : (plG b l 0).getD (Int.toNat 0) default = headP b l := by
              show (plG b l 0).getD 0 default = _
              rw [plG_get (Nat.zero_le _) (Nat.zero_le _)]; rfl
            simp only [e0]
            refine ⟨⟨by decide, by omega⟩, by show 0 < l.length + 1; omega, fun _ => ⟨by decide, by omega⟩, fun _ => by show 0 < l.length + 1; omega, fun hh => ?_, fun hh => ?_⟩
            · rw [if_pos (by simpa using hh)] at h
              exact ans_lsn h
            · have hh2 : (headP b l).is = true ∧ ¬ b.d < (headP b l).depth := by simpa using hh
              rw [if_neg (by rw [hh2.1]; simp; omega)] at h
              obtain ⟨T, hT⟩ : ∃ T, T = placeL b (divL b l) l 0 := ⟨_, rfl⟩
              have h : k (.tup [lsS (placeL b (divL b l) l 0), .int .i64 0]) [] := h
              rw [← hT] at h
              refine Loop.keep [1, 0, 3, 1, 0, 0] (Nat × Int × List Std) (fun x => [(8, .own 2 0 x.2.2.length 4), (9, .int .i64 x.2.1), (10, .int .i64 x.1)]) (fun x => [(2, .own (decide (x.2.2.length = 0)) 4 x.2.2.length (fun k => encS (x.2.2.getD k default)))]) [.gone] (fun x => x.1 ≤ l.length ∧ x.2.2.length = x.1 ∧ (0 ≤ x.2.1 ∧ x.2.1 ≤ 3000000 * x.1) ∧ (headP b (l.drop x.1)).is = true ∧ ∃ m, l.length - x.1 ≤ m ∧ x.2.2 ++ placeL b (divG b m (l.drop x.1)) (l.drop x.1) x.2.1 = T) (fun x => l.length - x.1) ?_ ?_
              · refine ⟨(0, 0, []), ⟨Nat.zero_le _, rfl, ⟨Int.le_refl _, by dsimp only; omega⟩, hh2.1, l.length, by dsimp only; omega, by rw [hT]; rfl⟩, ?_⟩
                dsimp only [go_sem, Option.bind, Option.map, List.append_nil, Nat.beq, List.cons_append, List.nil_append, List.append_eq, List.map_cons, List.map_nil, ite_self, reduceIte]
                simp only [leS_mk, leL_cons, leL_nil, le_junk, le_int, le_bool, le_nil, leLL_nil, leLL_cons, leH_cons, leH_nil, leH1_box, leH1_own, leH1_gone, le_vs, le_agg, le_tup, le_ptr, le_own, le_xp, le_fn, le_opt, le_val, le_elem, le_nil_own, le_nil_vs, leH_ghost, leL_chunk, leXL_id, bnd_int, bnd_bool, bnd_val, bnd_nil, bnd_junk, bnd_vs, bnd_xp, bnd_agg, bnd_tup, bnd_ptr, bnd_own, bnd_elem, bnd_fn, bnd_iface, bnd_opt, bndL_nil, bndL_cons, lenH_cons, lenH_nil, imp_self, implies_true, true_and, and_true]
                simp
              · rintro ⟨i, y, o⟩ ⟨hi, hol, ⟨hy1, hy2⟩, hhi, m, hm, hTe⟩
                dsimp only at hi hol hy1 hy2 hhi hm hTe
                dsimp only [J0_ct37, mxC, encS, encT, encP, Int.toNat_natCast, go_sem, Option.bind, Option.map, List.append_nil, Nat.beq, List.cons_append, List.nil_append, List.append_eq, List.map_cons, List.map_nil, ite_self, reduceIte]
                simp only [true_and, and_true, imp_self, implies_true, decide_eq_true_eq, decide_eq_false_iff_not, Nat.reduceAdd, Nat.reduceLeDiff, Bool.not_not, reduceCtorEq, false_imp_iff, Bool.not_eq_true', Bool.not_eq_false', Bool.false_eq_true, and_self, forall_const, ne_eq, not_false_eq_true, Nat.reduceEqDiff]
                simp only [subLo_eq, addLo_eq]
                refine ⟨fun hlt => ?_, fun hge => ?_⟩
                · have hpg : (plG b l 0).getD i default = headP b (l.drop i) := by
                    rw [plG_get (Nat.zero_le _) hi]; rfl
                  have hlp : ∀ f ∈ l.drop i, 1 ≤ f.1 := fun f hf => (hlo f (List.mem_of_mem_drop hf)).1.1
                  obtain ⟨j, hj, hfi, hwj, hnx, _⟩ := head_first hbo.2.2.1.1 (l := l.drop i) (by rw [List.length_drop]; omega) hlp hhi
                  rw [List.length_drop] at hj
                  have efi : IntKind.i64.wrap ((i : Int) + ((j : Int) + 1)) = ((i + (j + 1) : Nat) : Int) := by rw [mid_w (by omega)]; omega
                  simp only [hpg, hfi, efi, Int.toNat_natCast]
                  simp only [Nat.add_sub_cancel_left]
                  obtain ⟨R, hR⟩ : ∃ R, R = (l.drop i).take (j + 1) := ⟨_, rfl⟩
                  have hRl : R.length = j + 1 := by rw [hR, List.length_take, List.length_drop]; omega
                  have hRg : ∀ q, q < j + 1 → R.getD q default = l.getD (i + q) default := fun q hq => by
                    rw [hR, List.getD_eq_getElem?_getD, List.getElem?_take, if_pos hq, ← List.getD_eq_getElem?_getD, getD_drop]
                  have hRo : ∀ f ∈ R, okF f := fun f hf => hlo f (List.mem_of_mem_drop (List.mem_of_mem_take (by rw [← hR]; exact hf)))
                  have hmx : (maxG R).1 = mostF R := maxG_most (fun f hf => (hRo f hf).1.1) (by omega)
                  have hmr := mostF_rng R 0 hRo (Int.le_refl _) (by decide)
                  refine ⟨⟨by omega, by omega⟩, by omega, ⟨by omega, by omega, by omega⟩, R, ⟨⟨rfl, hRl.symm, fun q hq => ?_⟩, by omega, by omega, hRo⟩, ?_⟩
                  · rw [hRg q hq]; exact leXL_self _
                  rw [hmx]
                  obtain ⟨M, hM⟩ : ∃ M, M = mostF R := ⟨_, rfl⟩
                  have hMr : 0 ≤ M ∧ M ≤ 1000000 := by rw [hM]; exact hmr
                  rw [← hM]
                  refine Loop.keep [1, 0, 3, 1, 0, 0, 0, 0, 0, 74, 0, 0] (Nat × Int × List Std) (fun x => [(8, .own 2 0 x.2.2.length 4), (13, .int .i64 x.2.1), (90, .int .i64 x.1)]) (fun x => [(2, .own (decide (x.2.2.length = 0)) 4 x.2.2.length (fun k => encS (x.2.2.getD k default)))]) [] (fun x => x.1 ≤ j + 1 ∧ x.2.2.length = i + x.1 ∧ (0 ≤ x.2.1 ∧ x.2.1 ≤ 3000000 * x.1) ∧ x.2.2 ++ rowF b (y + M) (R.drop x.1) x.2.1 = o ++ rowF b (y + M) R 0) (fun x => j + 1 - x.1) ?_ ?_
                  · refine ⟨(0, 0, o), ⟨Nat.zero_le _, by dsimp only; omega, ⟨Int.le_refl _, by dsimp only; omega⟩, rfl⟩, ?_⟩
                    dsimp only [encS, go_sem, Option.bind, Option.map, List.append_nil, Nat.beq, List.cons_append, List.nil_append, List.append_eq, List.map_cons, List.map_nil, ite_self, reduceIte]
                    simp only [leS_mk, leL_cons, leL_nil, le_junk, le_int, le_bool, le_nil, leLL_nil, leLL_cons, leH_cons, leH_nil, leH1_box, leH1_own, leH1_gone, le_vs, le_agg, le_tup, le_ptr, le_own, le_xp, le_fn, le_opt, le_val, le_elem, le_nil_own, le_nil_vs, leH_ghost, leL_chunk, leXL_id, bnd_int, bnd_bool, bnd_val, bnd_nil, bnd_junk, bnd_vs, bnd_xp, bnd_agg, bnd_tup, bnd_ptr, bnd_own, bnd_elem, bnd_fn, bnd_iface, bnd_opt, bndL_nil, bndL_cons, lenH_cons, lenH_nil, imp_self, implies_true, true_and, and_true]
                    exact ⟨by omega, by omega, by omega, rfl⟩
                  · rintro ⟨q, x, o'⟩ ⟨hq, hql, ⟨hx1, hx2⟩, hoe⟩
                    dsimp only at hq hql hx1 hx2 hoe
                    dsimp only [encS, encT, Int.toNat_natCast, go_sem, Option.bind, Option.map, List.append_nil, Nat.beq, List.cons_append, List.nil_append, List.append_eq, List.map_cons, List.map_nil, ite_self, reduceIte]
                    simp only [true_and, and_true, imp_self, implies_true, decide_eq_true_eq, decide_eq_false_iff_not, Nat.reduceAdd, Nat.reduceLeDiff, Bool.not_not, reduceCtorEq, false_imp_iff, Bool.not_eq_true', Bool.not_eq_false', Bool.false_eq_true, and_self, forall_const, ne_eq, not_false_eq_true, Nat.reduceEqDiff]
                    refine ⟨fun hlq => ?_, fun hgq => ?_⟩
                    · have hf : okF (l.getD (i + q) default) := hlo _ (getD_mem (by omega))
                      have hRq := hRg q (by omega)
                      rw [drop_cons' (show q < R.length by omega), hRq, rowF] at hoe
                      generalize l.getD (i + q) default = f at *
                      obtain ⟨⟨f1, f2⟩, _⟩ := hf
                      obtain ⟨c1, c2⟩ := hbo.2.2.1
                      have w1 : IntKind.i64.wrap (x + f.1) = x + f.1 := mid_w (by omega)
                      have w2 : IntKind.i64.wrap (y + M) = y + M := mid_w (by omega)
                      have w3 : IntKind.i64.wrap (x + IntKind.i64.wrap (IntKind.i64.wrap (2 * f.1) + b.c)) = x + (2 * f.1 + b.c) := by
                        rw [mid_w (x := 2 * f.1) (by omega), mid_w (x := 2 * f.1 + b.c) (by omega), mid_w (by omega)]
                      have w4 : IntKind.i64.wrap ((q : Int) + 1) = ((q + 1 : Nat) : Int) := by rw [mid_w (by omega)]; omega
                      simp only [w1, w2, w3, w4]
                      refine ⟨⟨by omega, by omega⟩, by decide, ⟨by unfold capOk; omega, fun p hp => match p, hp with | 0, _ => ⟨rfl, trivial, trivial, trivial, trivial, trivial⟩⟩, (q + 1, x + (2 * f.1 + b.c), o' ++ [⟨x + f.1, y + M, f.1, f.2⟩]), ⟨by dsimp only; omega, by dsimp only; rw [List.length_append, List.length_singleton]; omega, ⟨by dsimp only; omega, by dsimp only; omega⟩, by dsimp only; rw [List.append_assoc]; exact hoe⟩, by dsimp only; omega, ?_⟩
                      simp only [List.length_append, List.length_singleton, getD_app, leS_mk, leL_cons, leL_nil, le_junk, le_int, le_bool, le_nil, leLL_nil, leLL_cons, leH_cons, leH_nil, leH1_box, leH1_own, leH1_gone, le_vs, le_agg, le_tup, le_ptr, le_own, le_xp, le_fn, le_opt, le_val, le_elem, le_nil_own, le_nil_vs, leH_ghost, leL_chunk, leXL_id, bnd_int, bnd_bool, bnd_val, bnd_nil, bnd_junk, bnd_vs, bnd_xp, bnd_agg, bnd_tup, bnd_ptr, bnd_own, bnd_elem, bnd_fn, bnd_iface, bnd_opt, bndL_nil, bndL_cons, lenH_cons, lenH_nil, imp_self, implies_true, true_and, and_true]
                      refine ⟨by omega, by simp, fun p hp => ?_⟩
                      rcases Nat.lt_or_ge p o'.length with h' | h'
                      · simp only [if_pos h']; exact leL_self [.int _ _, .int _ _, .int _ _, .int _ _] ⟨trivial, trivial, trivial, trivial, trivial⟩
                      · obtain rfl : p = o'.length := by omega
                        simp only [if_neg (Nat.lt_irrefl o'.length), if_pos, Nat.sub_self]
                        exact leL_self [.int _ _, .int _ _, .int _ _, .int _ _] ⟨trivial, trivial, trivial, trivial, trivial⟩
                    · obtain rfl : q = j + 1 := by omega
                      rw [List.drop_of_length_le (by omega), rowF, List.append_nil] at hoe
                      obtain ⟨c1, c2⟩ := hbo.2.2.1
                      have w5 : IntKind.i64.wrap (y + IntKind.i64.wrap (IntKind.i64.wrap (2 * M) + b.c)) = y + (2 * M + b.c) := by
                        rw [mid_w (x := 2 * M) (by omega), mid_w (x := 2 * M + b.c) (by omega), mid_w (by omega)]
                      have w6' : IntKind.i64.wrap ((i : Int) + ((j + 1 : Nat) : Int)) = ((i + (j + 1) : Nat) : Int) := by rw [mid_w (by omega)]; omega
                      simp only [w5, w6']
                      obtain ⟨m', rfl⟩ : ∃ m', m = m' + 1 := ⟨m - 1, by omega⟩
                      have hft : (headP b (l.drop i)).first.toNat = j + 1 := by rw [hfi]; omega
                      rw [divG, if_neg (by rw [List.length_drop]; omega), hft, placeL, ← hR, ← hM, List.drop_drop, ← List.append_assoc, ← hoe] at hTe
                      rw [List.drop_drop] at hnx
                      refine ⟨(i + (j + 1), y + (2 * M + b.c), o'), ⟨by dsimp only; omega, by dsimp only; omega, ⟨by dsimp only; omega, by dsimp only; omega⟩, hnx, m', by dsimp only; omega, hTe⟩, by dsimp only; omega, ?_⟩
                      simp only [leS_mk, leL_cons, leL_nil, le_junk, le_int, le_bool, le_nil, leLL_nil, leLL_cons, leH_cons, leH_nil, leH1_box, leH1_own, leH1_gone, le_vs, le_agg, le_tup, le_ptr, le_own, le_xp, le_fn, le_opt, le_val, le_elem, le_nil_own, le_nil_vs, leH_ghost, leL_chunk, leXL_id, bnd_int, bnd_bool, bnd_val, bnd_nil, bnd_junk, bnd_vs, bnd_xp, bnd_agg, bnd_tup, bnd_ptr, bnd_own, bnd_elem, bnd_fn, bnd_iface, bnd_opt, bndL_nil, bndL_cons, lenH_cons, lenH_nil, imp_self, implies_true, true_and, and_true]
                      omega
                · obtain rfl : i = l.length := by omega
                  rw [List.drop_of_length_le (Nat.le_refl _)] at hTe
                  have e1 : divG b m [] = [] := by cases m <;> rfl
                  rw [e1, placeL, List.append_nil] at hTe
                  subst hTe
                  refine ans_le (show k _ [] from h) ?_ ?_
                  · dsimp only [lsS, expo, encS, go_sem, Option.bind, Option.map, List.append_nil, Nat.beq, List.cons_append, List.nil_append, List.append_eq, List.map_cons, List.map_nil, ite_self, reduceIte]
                    simp only [leS_mk, leL_cons, leL_nil, le_junk, le_int, le_bool, le_nil, leLL_nil, leLL_cons, leH_cons, leH_nil, leH1_box, leH1_own, leH1_gone, le_vs, le_agg, le_tup, le_ptr, le_own, le_xp, le_fn, le_opt, le_val, le_elem, le_nil_own, le_nil_vs, leH_ghost, leL_chunk, leXL_id, bnd_int, bnd_bool, bnd_val, bnd_nil, bnd_junk, bnd_vs, bnd_xp, bnd_agg, bnd_tup, bnd_ptr, bnd_own, bnd_elem, bnd_fn, bnd_iface, bnd_opt, bndL_nil, bndL_cons, lenH_cons, lenH_nil, imp_self, implies_true, true_and, and_true]
                  · intro _; simp [freshS, freshL, encS, lsS]
  · exact h.1.elim
end Go.Proofs.Ytojaibhjfeojjaa

/- Layouts, walked: Order. -/
set_option linter.all false
namespace Go.Proofs.Ytojaibhjfeojjaa
open Go Go.Vx
set_option maxRecDepth 100000
set_option maxHeartbeats 4000000

def v14 : VF := { ntmps := 50, res := [.tmp 4, .tmp 5], body :=
 (.seq (.region [⟨(some 2), none, .box, [.tm 0]⟩,
  ⟨(some 4), none, .mov, [.cn .nil]⟩,
  ⟨(some 5), none, .mov, [.cn (.int .i64 0)]⟩])
 (.seq (.seq (.region [⟨(some 9), none, (.load false 1), [.tm 2]⟩,
  ⟨(some 10), none, (.cmp .lss), [.tm 9, .cn (.int .i64 0)]⟩,
  ⟨(some 11), none, .mov, [.tm 10]⟩,
  ⟨(some 12), (some (11, false)), (.load false 1), [.tm 2]⟩,
  ⟨(some 13), (some (11, false)), (.cmp .gtr), [.tm 12, .cn (.int .i64 200)]⟩,
  ⟨(some 14), none, .or, [.tm 11, .tm 13]⟩,
  ⟨(some 15), none, .mov, [.tm 14]⟩,
  ⟨(some 16), (some (15, false)), .mov, [.tm 1]⟩,
  ⟨(some 17), (some (15, false)), (.cmp .lss), [.tm 16, .cn (.int .i64 1)]⟩,
  ⟨(some 18), none, .or, [.tm 15, .tm 17]⟩,
  ⟨(some 19), none, .mov, [.tm 18]⟩,
  ⟨(some 20), (some (19, false)), .mov, [.tm 1]⟩,
  ⟨(some 21), (some (19, false)), (.cmp .gtr), [.tm 20, .cn (.int .i64 4)]⟩,
  ⟨(some 22), none, .or, [.tm 19, .tm 21]⟩])
 (.cond (.tm 22) (.seq (.region [⟨(some 4), none, .mov, [.cn .nil]⟩,
  ⟨(some 5), none, .mov, [.cn (.int .i64 2)]⟩])
 .ret)
  .skip))
 (.seq (.region [⟨(some 23), none, (.buildSlice 1 0 [(.int .i64 0)] []), []⟩,
  ⟨(some 6), none, (.alloc [.nil]), []⟩,
  ⟨none, none, (.store 1), [.tm 6, .tm 23]⟩])
 (.seq (.region [⟨(some 24), none, (.mkfn (.func 42) 0), [.tm 6, .tm 2]⟩,
  ⟨(some 7), none, .mov, [.tm 24]⟩])
 (.seq (.seq (.region [⟨(some 25), none, .mov, [.tm 1]⟩])
 (.block 0 (.seq (.region [⟨(some 34), none, (.cmp .eql), [.tm 25, .cn (.int .i64 1)]⟩,
  ⟨(some 33), none, .mov, [.tm 34]⟩])
 (.cond (.tm 33) (.region [⟨(some 35), none, .mov, [.tm 7]⟩,
  ⟨(some 36), none, .callv, [.tm 35, .cn (.int .i64 0), .cn (.int .i64 1), .cn (.bool false)]⟩])
  (.seq (.region [⟨(some 38), none, (.cmp .eql), [.tm 25, .cn (.int .i64 2)]⟩,
  ⟨(some 37), none, .mov, [.tm 38]⟩])
 (.cond (.tm 37) (.seq (.region [⟨(some 39), none, .mov, [.tm 7]⟩,
  ⟨(some 40), none, .callv, [.tm 39, .cn (.int .i64 0), .cn (.int .i64 2), .cn (.bool false)]⟩])
 (.region [⟨(some 41), none, .mov, [.tm 7]⟩,
  ⟨(some 42), none, .callv, [.tm 41, .cn (.int .i64 1), .cn (.int .i64 2), .cn (.bool true)]⟩]))
  (.seq (.region [⟨(some 44), none, (.cmp .eql), [.tm 25, .cn (.int .i64 3)]⟩,
  ⟨(some 43), none, .mov, [.tm 44]⟩])
 (.cond (.tm 43) (.seq (.region [⟨(some 45), none, .mov, [.tm 7]⟩,
  ⟨(some 46), none, .callv, [.tm 45, .cn (.int .i64 0), .cn (.int .i64 2), .cn (.bool true)]⟩])
 (.region [⟨(some 47), none, .mov, [.tm 7]⟩,
  ⟨(some 48), none, .callv, [.tm 47, .cn (.int .i64 1), .cn (.int .i64 2), .cn (.bool false)]⟩]))
  (.seq (.region [⟨(some 26), none, .mov, [.cn (.int .i64 0)]⟩])
 (.block 1 (.loop (.seq (.region [⟨(some 27), none, (.cmp .lss), [.tm 26, .cn (.int .i64 4)]⟩])
 (.seq (.cond (.tm 27) .skip
  (.exit 1))
 (.seq (.block 2 (.seq (.region [⟨(some 28), none, .mov, [.tm 26]⟩,
  ⟨(some 8), none, .mov, [.tm 28]⟩])
 (.region [⟨(some 29), none, .mov, [.tm 7]⟩,
  ⟨(some 30), none, .mov, [.tm 8]⟩,
  ⟨(some 31), none, .callv, [.tm 29, .tm 30, .cn (.int .i64 4), .cn (.bool false)]⟩])))
 (.region [⟨(some 32), none, (.ari .add), [.tm 26, .cn (.int .i64 1)]⟩,
  ⟨(some 26), none, .mov, [.tm 32]⟩])))))))))))))))
 (.seq (.region [⟨(some 49), none, (.load false 1), [.tm 6]⟩,
  ⟨(some 4), none, .mov, [.tm 49]⟩,
  ⟨(some 5), none, .mov, [.cn (.int .i64 0)]⟩])
 .ret)))))) }
theorem v14_is : vfunc Try.prog Try.f14 = some v14 := by kernel_rfl
def v42 : VF := { ntmps := 28, res := [], body :=
 (.seq (.region [⟨(some 10), none, (.load false 1), [.tm 3]⟩,
  ⟨(some 11), none, .len, [.tm 10]⟩,
  ⟨(some 8), none, .mov, [.tm 11]⟩])
 (.seq (.seq (.region [⟨(some 12), none, .mov, [.tm 0]⟩,
  ⟨(some 9), none, .mov, [.tm 12]⟩])
 (.block 0 (.loop (.seq (.seq (.region [⟨(some 13), none, .mov, [.tm 9]⟩,
  ⟨(some 14), none, (.load false 1), [.tm 4]⟩,
  ⟨(some 15), none, (.cmp .lss), [.tm 13, .tm 14]⟩])
 (.cond (.tm 15) .skip
  (.exit 0)))
 (.seq (.block 1 (.region [⟨(some 19), none, (.load false 1), [.tm 3]⟩,
  ⟨(some 20), none, .mov, [.tm 9]⟩,
  ⟨(some 21), none, (.buildSlice 1 1 [(.int .i64 0)] [(0, 1)]), [.tm 20]⟩,
  ⟨(some 22), none, (.append 1 8 [(.int .i64 0)]), [.tm 19, .tm 21]⟩,
  ⟨none, none, (.store 1), [.tm 3, .tm 22]⟩]))
 (.region [⟨(some 16), none, .mov, [.tm 9]⟩,
  ⟨(some 17), none, .mov, [.tm 1]⟩,
  ⟨(some 18), none, (.ari .add), [.tm 16, .tm 17]⟩,
  ⟨(some 9), none, .mov, [.tm 18]⟩]))))))
 (.seq (.region [⟨(some 23), none, .mov, [.tm 2]⟩])
 (.cond (.tm 23) (.region [⟨(some 24), none, (.load false 1), [.tm 3]⟩,
  ⟨(some 25), none, .mov, [.tm 8]⟩,
  ⟨(some 26), none, (.slice 1 true false), [.tm 24, .tm 25]⟩,
  ⟨(some 27), none, (.call 43), [.tm 26]⟩])
  .skip)))) }
theorem v42_is : vfunc Try.prog Try.f42 = some v42 := by kernel_rfl
def v43 : VF := { ntmps := 28, res := [], body :=
 (.seq (.region [⟨(some 4), none, .mov, [.tm 0]⟩,
  ⟨(some 5), none, .len, [.tm 4]⟩,
  ⟨(some 6), none, (.ari .sub), [.tm 5, .cn (.int .i64 1)]⟩,
  ⟨(some 2), none, .mov, [.cn (.int .i64 0)]⟩,
  ⟨(some 3), none, .mov, [.tm 6]⟩])
 (.block 0 (.loop (.seq (.seq (.region [⟨(some 7), none, .mov, [.tm 2]⟩,
  ⟨(some 8), none, .mov, [.tm 3]⟩,
  ⟨(some 9), none, (.cmp .lss), [.tm 7, .tm 8]⟩])
 (.cond (.tm 9) .skip
  (.exit 0)))
 (.seq (.block 1 (.draw [] [⟨⟨(some 14), none, .mov, [.tm 0]⟩, []⟩,
  ⟨⟨(some 15), none, .mov, [.tm 2]⟩, []⟩,
  ⟨⟨(some 16), none, .mov, [.tm 0]⟩, []⟩,
  ⟨⟨(some 17), none, .mov, [.tm 3]⟩, []⟩,
  ⟨⟨(some 18), none, .mov, [.tm 0]⟩, []⟩,
  ⟨⟨(some 19), none, .mov, [.tm 3]⟩, []⟩,
  ⟨⟨(some 20), none, (.idxAddr 1), [.tm 18, .tm 19]⟩, []⟩,
  ⟨⟨(some 21), none, (.load false 1), [.tm 20]⟩, []⟩,
  ⟨⟨(some 22), none, .mov, [.tm 0]⟩, []⟩,
  ⟨⟨(some 23), none, .mov, [.tm 2]⟩, []⟩,
  ⟨⟨(some 24), none, (.idxAddr 1), [.tm 22, .tm 23]⟩, []⟩,
  ⟨⟨(some 25), none, (.load false 1), [.tm 24]⟩, []⟩,
  ⟨⟨(some 26), none, (.idxAddr 1), [.tm 14, .tm 15]⟩, []⟩,
  ⟨⟨none, none, (.store 1), [.tm 26, .tm 21]⟩, []⟩,
  ⟨⟨(some 27), none, (.idxAddr 1), [.tm 16, .tm 17]⟩, []⟩,
  ⟨⟨none, none, (.store 1), [.tm 27, .tm 25]⟩, []⟩]))
 (.region [⟨(some 10), none, .mov, [.tm 2]⟩,
  ⟨(some 11), none, (.ari .add), [.tm 10, .cn (.int .i64 1)]⟩,
  ⟨(some 12), none, .mov, [.tm 3]⟩,
  ⟨(some 13), none, (.ari .sub), [.tm 12, .cn (.int .i64 1)]⟩,
  ⟨(some 2), none, .mov, [.tm 11]⟩,
  ⟨(some 3), none, .mov, [.tm 13]⟩])))))) }
theorem v43_is : vfunc Try.prog Try.f43 = some v43 := by kernel_rfl


theorem prog_len (a s c : Nat) : (progL a s c).length = c := by simp [progL]
theorem prog_succ (a s c : Nat) : progL a s (c + 1) = progL a s c ++ [a + c * s] := by simp [progL, List.range_succ]
theorem prog_0 (a s : Nat) : progL a s 0 = [] := rfl
/-- A part of a list, half turned. -/
def revL (L : List Nat) (A M t q : Nat) : Nat := if q < A then L.getD q default else if q - A < t ∨ M - 1 - t < q - A then L.getD (A + (M - 1 - (q - A))) default else L.getD q default
theorem rev_step {L : List Nat} {A M t u q : Nat} (hu : M - 1 - t = u) (ht : t < u) (hq : q < A + M) : revL L A M (t + 1) q = if q = A + u then revL L A M t (A + t) else if q = A + t then revL L A M t (A + u) else revL L A M t q := by
  have a1 : revL L A M t (A + t) = L.getD (A + t) default := by
    unfold revL; rw [if_neg (by omega), if_neg (by omega)]
  have a2 : revL L A M t (A + u) = L.getD (A + u) default := by
    unfold revL; rw [if_neg (by omega), if_neg (by omega)]
  rw [a1, a2]
  unfold revL
  by_cases h1 : q = A + u
  · subst h1
    rw [if_pos rfl, if_neg (by omega), if_pos (by omega)]
    congr 1; omega
  · rw [if_neg h1]
    by_cases h2 : q = A + t
    · subst h2
      rw [if_pos rfl, if_neg (by omega), if_pos (by omega)]
      congr 1; omega
    · rw [if_neg h2]
      by_cases h3 : q < A
      · rw [if_pos h3, if_pos h3]
      · rw [if_neg h3, if_neg h3]
        by_cases h4 : q - A < t ∨ M - 1 - t < q - A
        · rw [if_pos h4, if_pos (by omega)]
        · rw [if_neg h4, if_neg (by omega)]
theorem rev_0 {L : List Nat} {A M q : Nat} (h : q < A + M) : revL L A M 0 q = L.getD q default := by
  unfold revL
  split
  · rfl
  · rw [if_neg (by omega)]
theorem app_hi {L0 P : List Nat} {A p : Nat} (hA : L0.length = A) : (L0 ++ P).getD (A + p) default = P.getD p default := by
  rw [List.getD_eq_getElem?_getD, List.getElem?_append_right (by omega), hA, Nat.add_sub_cancel_left, ← List.getD_eq_getElem?_getD]
theorem app_lo {L0 P : List Nat} {q : Nat} (h : q < L0.length) : (L0 ++ P).getD q default = L0.getD q default := by
  rw [List.getD_eq_getElem?_getD, List.getElem?_append_left h, ← List.getD_eq_getElem?_getD]
theorem rev_get {P : List Nat} {M p : Nat} (hM : P.length = M) (h : p < M) : P.reverse.getD p default = P.getD (M - 1 - p) default := by
  rw [List.getD_eq_getElem?_getD, List.getElem?_reverse (by omega), hM, ← List.getD_eq_getElem?_getD]
theorem rev_end {L1 P : List Nat} {A M t q : Nat} (hA : L1.length = A) (hM : P.length = M) (h1 : 2 * t ≤ M) (h2 : M ≤ 2 * t + 1) (h : q < A + M) : revL (L1 ++ P) A M t q = (L1 ++ P.reverse).getD q default := by
  unfold revL
  split
  · rename_i hq
    rw [app_lo (by omega), app_lo (by omega)]
  · rename_i hq
    obtain ⟨p, rfl⟩ : ∃ p, q = A + p := ⟨q - A, by omega⟩
    rw [Nat.add_sub_cancel_left, app_hi hA, app_hi hA, app_hi hA, rev_get hM (by omega)]
    split
    · rfl
    · congr 1; omega
def accL (n : Nat) : Nat → List Nat
  | 0 => []
  | f + 1 => accL n f ++ classL n f 4
theorem acc_le {n : Nat} : ∀ (f : Nat), n ≤ 200 → f ≤ 4 → (accL n f).length ≤ 200 * f
  | 0, _, _ => Nat.zero_le _
  | f + 1, h, h4 => by
    have := acc_le f h (by omega)
    rw [accL, List.length_append, classL, prog_len]
    omega
theorem nb21 : Nat.beq 2 1 = false := rfl
theorem nb01 : Nat.beq 0 1 = false := rfl
def ordC : Ctr := { alias := false, of := fun l => match l with
  | [.int .i64 n, .int .i64 kd] => .all Bool fun z => .fin (.tup [.vs true z (orderR n kd).1.length 1 (fun k => encI ((orderR n kd).1.getD k default)), .int .i64 (orderR n kd).2]) []
  | _ => noC }
def K0 : Env := { ct := fun _ => none, fn := fun n => match n with | 42 => some v42 | 43 => some v43 | _ => none, meth := fun _ _ => none }
theorem K0_ct42 : K0.ct 42 = none := rfl
theorem K0_fn42 : K0.fn 42 = some v42 := rfl
theorem K0_ct43 : K0.ct 43 = none := rfl
theorem K0_fn43 : K0.fn 43 = some v43 := rfl
theorem K0_ok : EnvOk Try.prog K0 := by
  refine ⟨fun f c h => ?_, fun f vf h => ?_, (fun _ _ _ h => by cases h), by kernel_rfl⟩
  · cases h
  · simp only [K0] at h
    split at h
    · cases h; exact ⟨Try.f42, Try.func42, v42_is, Try.f42, Try.func42, by kernel_rfl, by kernel_rfl⟩
    · cases h; exact ⟨Try.f43, Try.func43, v43_is, Try.f43, Try.func43, by kernel_rfl, by kernel_rfl⟩
    · cases h

theorem ord_ok : ordC.ok Try.prog 14 := by
  refine contract Try.func14 v14_is K0_ok 400 ordC fun args k h => ⟨args, ?_⟩
  simp only [ordC] at h
  split at h
  · rename_i n kd
    refine ⟨by simp [leL, le], ?_⟩
    dsimp only [v14, v42, v43, K0_ct42, K0_fn42, K0_ct43, K0_fn43, go_sem, Option.bind, Option.map, List.append_nil, Nat.beq, List.cons_append, List.nil_append, List.append_eq, List.map_cons, List.map_nil, ite_self, reduceIte]
    simp only [true_and, and_true, imp_self, implies_true, decide_eq_true_eq, decide_eq_false_iff_not, Nat.reduceAdd, Nat.reduceLeDiff, Bool.not_not, reduceCtorEq, false_imp_iff, Bool.not_eq_true', Bool.not_eq_false', Bool.false_eq_true, and_self, forall_const, ne_eq, not_false_eq_true, Nat.reduceEqDiff]
    have h : ∀ z : Bool, k (.tup [.vs true z (orderR n kd).1.length 1 (fun k => encI ((orderR n kd).1.getD k default)), .int .i64 (orderR n kd).2]) [] := h
    unfold orderR at h
    refine ⟨fun hb => ?_, fun hb => ?_⟩
    · simp only [Bool.or_eq_true, decide_eq_true_eq] at hb
      rw [if_pos (by omega)] at h
      exact ans_le (h true) (by simp [expo, view, viewL, le, leL]) (fun _ => by simp [freshS, freshL])
    · simp only [Bool.or_eq_false_iff, decide_eq_false_iff_not] at hb
      rw [if_neg (by omega)] at h
      obtain ⟨n, rfl⟩ := Int.eq_ofNat_of_zero_le (show 0 ≤ n by omega)
      obtain ⟨kd, rfl⟩ := Int.eq_ofNat_of_zero_le (show 0 ≤ kd by omega)
      simp only [Int.toNat_natCast] at h
      have hkd : kd = 1 ∨ kd = 2 ∨ kd = 3 ∨ kd = 4 := by omega
      have hn : n ≤ 200 := by omega
      refine ⟨by decide, fun hk => ?_, fun hk => ⟨fun hk2 => ?_, fun hk2 => ⟨fun hk3 => ?_, fun hk3 => ?_⟩⟩⟩
      · obtain rfl : kd = 1 := by omega
        refine Loop.keepP 1 [0, 0, 0, 0, 0, 3] Nat (fun c => [(9, .int .i64 ((0 + c * 1 : Nat) : Int))]) (fun c => [(1, .own false 1 (0 + c) (fun q => encI ((([] : List Nat) ++ progL (0) 1 c).getD q default))), (2, .box [.own 1 0 (0 + c) 1])]) [] (fun c => c ≤ (n - (0) + 1 - 1) / 1) (fun c => (n - (0) + 1 - 1) / 1 - c) ?_ ?_
        · refine ⟨0, Nat.zero_le _, ?_⟩
          dsimp only [go_sem, Option.bind, Option.map, List.append_nil, Nat.beq, List.cons_append, List.nil_append, List.append_eq, List.map_cons, List.map_nil, ite_self, reduceIte]
          simp only [Bool.or_self, leS_mk, leL_cons, leL_nil, le_junk, le_int, le_bool, le_nil, leLL_nil, leLL_cons, leH_cons, leH_nil, leH1_box, leH1_own, leH1_gone, le_vs, le_agg, le_tup, le_ptr, le_own, le_xp, le_fn, le_opt, le_val, le_elem, le_nil_own, le_nil_vs, leH_ghost, leL_chunk, leXL_id, bnd_int, bnd_bool, bnd_val, bnd_nil, bnd_junk, bnd_vs, bnd_xp, bnd_agg, bnd_tup, bnd_ptr, bnd_own, bnd_elem, bnd_fn, bnd_iface, bnd_opt, bndL_nil, bndL_cons, lenH_cons, lenH_nil, imp_self, implies_true, true_and, and_true]
          simp [prog_0, leL, le, encI]
        · rintro c hc
          dsimp only [v42, v43, K0_ct42, K0_fn42, K0_ct43, K0_fn43, encI, Int.toNat_natCast, go_sem, Option.bind, Option.map, List.append_nil, Nat.beq, List.cons_append, List.nil_append, List.append_eq, List.map_cons, List.map_nil, ite_self, reduceIte]
          simp only [true_and, and_true, imp_self, implies_true, decide_eq_true_eq, decide_eq_false_iff_not, Nat.reduceAdd, Nat.reduceLeDiff, Bool.not_not, reduceCtorEq, false_imp_iff, Bool.not_eq_true', Bool.not_eq_false', Bool.false_eq_true, and_self, forall_const, ne_eq, not_false_eq_true, Nat.reduceEqDiff]
          refine ⟨fun hlt => ?_, fun hge => ?_⟩
          · refine ⟨by decide, ⟨by unfold capOk; omega, fun q hq => match q, hq with | 0, _ => ⟨rfl, trivial, trivial⟩⟩, c + 1, by omega, by omega, ?_⟩
            have hw : IntKind.i64.wrap (((0 + c * 1 : Nat) : Int) + 1) = ((0 + (c + 1) * 1 : Nat) : Int) := by rw [mid_w (by omega)]; omega
            simp only [Bool.or_self, refs, refsL, nb21, nb01, hw, leS_mk, leL_cons, leL_nil, le_junk, le_int, le_bool, le_nil, leLL_nil, leLL_cons, leH_cons, leH_nil, leH1_box, leH1_own, leH1_gone, le_vs, le_agg, le_tup, le_ptr, le_own, le_xp, le_fn, le_opt, le_val, le_elem, le_nil_own, le_nil_vs, leH_ghost, leL_chunk, leXL_id, bnd_int, bnd_bool, bnd_val, bnd_nil, bnd_junk, bnd_vs, bnd_xp, bnd_agg, bnd_tup, bnd_ptr, bnd_own, bnd_elem, bnd_fn, bnd_iface, bnd_opt, bndL_nil, bndL_cons, lenH_cons, lenH_nil, imp_self, implies_true, true_and, and_true]
            have e1 : ([] : List Nat) ++ progL (0) 1 (c + 1) = (([] : List Nat) ++ progL (0) 1 c) ++ [0 + c * 1] := by rw [prog_succ, List.append_assoc]
            have e2 : (([] : List Nat) ++ progL (0) 1 c).length = 0 + c := by rw [List.length_append, prog_len]; simp
            have e3 : ∀ q, q < 0 + c + 1 → leL (0 + 1 + 1 + 1 + 1) (0 + 1 + 1 + 1) (if q < 0 + c then [SV.int IntKind.i64 (((([] : List Nat) ++ progL (0) 1 c).getD q default : Nat) : Int)] else purgeL 1 (takeL 1 (dropL ((q - (0 + c)) * 1) [SV.int IntKind.i64 ((0 + c * 1 : Nat) : Int)]))) [SV.int IntKind.i64 (((([] : List Nat) ++ progL (0) 1 (c + 1)).getD q default : Nat) : Int)] := by
              intro q hq
              rw [e1, getD_app, e2]
              rcases Nat.lt_or_ge q (0 + c) with h' | h'
              · rw [if_pos h', if_pos h']; exact leL_self [.int _ _] ⟨trivial, trivial⟩
              · obtain rfl : q = 0 + c := by omega
                rw [if_neg (by omega), if_neg (by omega), if_pos rfl, Nat.sub_self]
                exact leL_self [.int _ _] ⟨trivial, trivial⟩
            exact ⟨by omega, by omega, ⟨rfl, by omega, e3⟩, by omega, by omega⟩
          · obtain rfl : c = (n - (0) + 1 - 1) / 1 := by omega
            have hT : orderL n 1 = ([] : List Nat) ++ progL (0) 1 ((n - (0) + 1 - 1) / 1) := rfl
            rw [hT] at h
            refine ans_le (h false) ?_ ?_
            · dsimp only [expo, encI, go_sem, Option.bind, Option.map, List.append_nil, Nat.beq, List.cons_append, List.nil_append, List.append_eq, List.map_cons, List.map_nil, ite_self, reduceIte]
              simp only [List.length_append, prog_len, leS_mk, leL_cons, leL_nil, le_junk, le_int, le_bool, le_nil, leLL_nil, leLL_cons, leH_cons, leH_nil, leH1_box, leH1_own, leH1_gone, le_vs, le_agg, le_tup, le_ptr, le_own, le_xp, le_fn, le_opt, le_val, le_elem, le_nil_own, le_nil_vs, leH_ghost, leL_chunk, leXL_id, bnd_int, bnd_bool, bnd_val, bnd_nil, bnd_junk, bnd_vs, bnd_xp, bnd_agg, bnd_tup, bnd_ptr, bnd_own, bnd_elem, bnd_fn, bnd_iface, bnd_opt, bndL_nil, bndL_cons, lenH_cons, lenH_nil, imp_self, implies_true, true_and, and_true]
              simp
            · intro _; simp [freshS, freshL, encI]
      · obtain rfl : kd = 2 := by omega
        refine Loop.keepP 1 [0, 0, 0, 0, 0, 3] Nat (fun c => [(9, .int .i64 ((0 + c * 2 : Nat) : Int))]) (fun c => [(1, .own false 1 (0 + c) (fun q => encI ((([] : List Nat) ++ progL (0) 2 c).getD q default))), (2, .box [.own 1 0 (0 + c) 1])]) [] (fun c => c ≤ (n - (0) + 2 - 1) / 2) (fun c => (n - (0) + 2 - 1) / 2 - c) ?_ ?_
        · refine ⟨0, Nat.zero_le _, ?_⟩
          dsimp only [go_sem, Option.bind, Option.map, List.append_nil, Nat.beq, List.cons_append, List.nil_append, List.append_eq, List.map_cons, List.map_nil, ite_self, reduceIte]
          simp only [Bool.or_self, leS_mk, leL_cons, leL_nil, le_junk, le_int, le_bool, le_nil, leLL_nil, leLL_cons, leH_cons, leH_nil, leH1_box, leH1_own, leH1_gone, le_vs, le_agg, le_tup, le_ptr, le_own, le_xp, le_fn, le_opt, le_val, le_elem, le_nil_own, le_nil_vs, leH_ghost, leL_chunk, leXL_id, bnd_int, bnd_bool, bnd_val, bnd_nil, bnd_junk, bnd_vs, bnd_xp, bnd_agg, bnd_tup, bnd_ptr, bnd_own, bnd_elem, bnd_fn, bnd_iface, bnd_opt, bndL_nil, bndL_cons, lenH_cons, lenH_nil, imp_self, implies_true, true_and, and_true]
          simp [prog_0, leL, le, encI]
        · rintro c hc
          dsimp only [v42, v43, K0_ct42, K0_fn42, K0_ct43, K0_fn43, encI, Int.toNat_natCast, go_sem, Option.bind, Option.map, List.append_nil, Nat.beq, List.cons_append, List.nil_append, List.append_eq, List.map_cons, List.map_nil, ite_self, reduceIte]
          simp only [true_and, and_true, imp_self, implies_true, decide_eq_true_eq, decide_eq_false_iff_not, Nat.reduceAdd, Nat.reduceLeDiff, Bool.not_not, reduceCtorEq, false_imp_iff, Bool.not_eq_true', Bool.not_eq_false', Bool.false_eq_true, and_self, forall_const, ne_eq, not_false_eq_true, Nat.reduceEqDiff]
          refine ⟨fun hlt => ?_, fun hge => ?_⟩
          · refine ⟨by decide, ⟨by unfold capOk; omega, fun q hq => match q, hq with | 0, _ => ⟨rfl, trivial, trivial⟩⟩, c + 1, by omega, by omega, ?_⟩
            have hw : IntKind.i64.wrap (((0 + c * 2 : Nat) : Int) + 2) = ((0 + (c + 1) * 2 : Nat) : Int) := by rw [mid_w (by omega)]; omega
            simp only [Bool.or_self, refs, refsL, nb21, nb01, hw, leS_mk, leL_cons, leL_nil, le_junk, le_int, le_bool, le_nil, leLL_nil, leLL_cons, leH_cons, leH_nil, leH1_box, leH1_own, leH1_gone, le_vs, le_agg, le_tup, le_ptr, le_own, le_xp, le_fn, le_opt, le_val, le_elem, le_nil_own, le_nil_vs, leH_ghost, leL_chunk, leXL_id, bnd_int, bnd_bool, bnd_val, bnd_nil, bnd_junk, bnd_vs, bnd_xp, bnd_agg, bnd_tup, bnd_ptr, bnd_own, bnd_elem, bnd_fn, bnd_iface, bnd_opt, bndL_nil, bndL_cons, lenH_cons, lenH_nil, imp_self, implies_true, true_and, and_true]
            have e1 : ([] : List Nat) ++ progL (0) 2 (c + 1) = (([] : List Nat) ++ progL (0) 2 c) ++ [0 + c * 2] := by rw [prog_succ, List.append_assoc]
            have e2 : (([] : List Nat) ++ progL (0) 2 c).length = 0 + c := by rw [List.length_append, prog_len]; simp
            have e3 : ∀ q, q < 0 + c + 1 → leL (0 + 1 + 1 + 1 + 1) (0 + 1 + 1 + 1) (if q < 0 + c then [SV.int IntKind.i64 (((([] : List Nat) ++ progL (0) 2 c).getD q default : Nat) : Int)] else purgeL 1 (takeL 1 (dropL ((q - (0 + c)) * 1) [SV.int IntKind.i64 ((0 + c * 2 : Nat) : Int)]))) [SV.int IntKind.i64 (((([] : List Nat) ++ progL (0) 2 (c + 1)).getD q default : Nat) : Int)] := by
              intro q hq
              rw [e1, getD_app, e2]
              rcases Nat.lt_or_ge q (0 + c) with h' | h'
              · rw [if_pos h', if_pos h']; exact leL_self [.int _ _] ⟨trivial, trivial⟩
              · obtain rfl : q = 0 + c := by omega
                rw [if_neg (by omega), if_neg (by omega), if_pos rfl, Nat.sub_self]
                exact leL_self [.int _ _] ⟨trivial, trivial⟩
            exact ⟨by omega, by omega, ⟨rfl, by omega, e3⟩, by omega, by omega⟩
          · obtain rfl : c = (n - (0) + 2 - 1) / 2 := by omega
            generalize hA : (n - 0 + 2 - 1) / 2 = A at *
            simp only [Nat.zero_add]
            refine Loop.keepP 1 [0, 0, 0, 0, 0, 3] Nat (fun c => [(9, .int .i64 ((1 + c * 2 : Nat) : Int))]) (fun c => [(1, .own false 1 (A + c) (fun q => encI (((progL 0 2 A) ++ progL (1) 2 c).getD q default))), (2, .box [.own 1 0 (A + c) 1])]) [] (fun c => c ≤ (n - (1) + 2 - 1) / 2) (fun c => (n - (1) + 2 - 1) / 2 - c) ?_ ?_
            · refine ⟨0, Nat.zero_le _, ?_⟩
              dsimp only [go_sem, Option.bind, Option.map, List.append_nil, Nat.beq, List.cons_append, List.nil_append, List.append_eq, List.map_cons, List.map_nil, ite_self, reduceIte]
              simp only [Bool.or_self, leS_mk, leL_cons, leL_nil, le_junk, le_int, le_bool, le_nil, leLL_nil, leLL_cons, leH_cons, leH_nil, leH1_box, leH1_own, leH1_gone, le_vs, le_agg, le_tup, le_ptr, le_own, le_xp, le_fn, le_opt, le_val, le_elem, le_nil_own, le_nil_vs, leH_ghost, leL_chunk, leXL_id, bnd_int, bnd_bool, bnd_val, bnd_nil, bnd_junk, bnd_vs, bnd_xp, bnd_agg, bnd_tup, bnd_ptr, bnd_own, bnd_elem, bnd_fn, bnd_iface, bnd_opt, bndL_nil, bndL_cons, lenH_cons, lenH_nil, imp_self, implies_true, true_and, and_true]
              exact ⟨by omega, by omega, ⟨by omega, fun q hq => by rw [prog_0, List.append_nil]; exact leL_self [.int _ _] ⟨trivial, trivial⟩⟩, by omega, by omega⟩
            · rintro c hc
              dsimp only [v42, v43, K0_ct42, K0_fn42, K0_ct43, K0_fn43, encI, Int.toNat_natCast, go_sem, Option.bind, Option.map, List.append_nil, Nat.beq, List.cons_append, List.nil_append, List.append_eq, List.map_cons, List.map_nil, ite_self, reduceIte]
              simp only [true_and, and_true, imp_self, implies_true, decide_eq_true_eq, decide_eq_false_iff_not, Nat.reduceAdd, Nat.reduceLeDiff, Bool.not_not, reduceCtorEq, false_imp_iff, Bool.not_eq_true', Bool.not_eq_false', Bool.false_eq_true, and_self, forall_const, ne_eq, not_false_eq_true, Nat.reduceEqDiff]
              refine ⟨fun hlt => ?_, fun hge => ?_⟩
              · refine ⟨by decide, ⟨by unfold capOk; omega, fun q hq => match q, hq with | 0, _ => ⟨rfl, trivial, trivial⟩⟩, c + 1, by omega, by omega, ?_⟩
                have hw : IntKind.i64.wrap (((1 + c * 2 : Nat) : Int) + 2) = ((1 + (c + 1) * 2 : Nat) : Int) := by rw [mid_w (by omega)]; omega
                simp only [Bool.or_self, refs, refsL, nb21, nb01, hw, leS_mk, leL_cons, leL_nil, le_junk, le_int, le_bool, le_nil, leLL_nil, leLL_cons, leH_cons, leH_nil, leH1_box, leH1_own, leH1_gone, le_vs, le_agg, le_tup, le_ptr, le_own, le_xp, le_fn, le_opt, le_val, le_elem, le_nil_own, le_nil_vs, leH_ghost, leL_chunk, leXL_id, bnd_int, bnd_bool, bnd_val, bnd_nil, bnd_junk, bnd_vs, bnd_xp, bnd_agg, bnd_tup, bnd_ptr, bnd_own, bnd_elem, bnd_fn, bnd_iface, bnd_opt, bndL_nil, bndL_cons, lenH_cons, lenH_nil, imp_self, implies_true, true_and, and_true]
                have e1 : (progL 0 2 A) ++ progL (1) 2 (c + 1) = ((progL 0 2 A) ++ progL (1) 2 c) ++ [1 + c * 2] := by rw [prog_succ, List.append_assoc]
                have e2 : ((progL 0 2 A) ++ progL (1) 2 c).length = A + c := by rw [List.length_append, prog_len]; rw [prog_len]
                have e3 : ∀ q, q < A + c + 1 → leL (0 + 1 + 1 + 1 + 1) (0 + 1 + 1 + 1) (if q < A + c then [SV.int IntKind.i64 ((((progL 0 2 A) ++ progL (1) 2 c).getD q default : Nat) : Int)] else purgeL 1 (takeL 1 (dropL ((q - (A + c)) * 1) [SV.int IntKind.i64 ((1 + c * 2 : Nat) : Int)]))) [SV.int IntKind.i64 ((((progL 0 2 A) ++ progL (1) 2 (c + 1)).getD q default : Nat) : Int)] := by
                  intro q hq
                  rw [e1, getD_app, e2]
                  rcases Nat.lt_or_ge q (A + c) with h' | h'
                  · rw [if_pos h', if_pos h']; exact leL_self [.int _ _] ⟨trivial, trivial⟩
                  · obtain rfl : q = A + c := by omega
                    rw [if_neg (by omega), if_neg (by omega), if_pos rfl, Nat.sub_self]
                    exact leL_self [.int _ _] ⟨trivial, trivial⟩
                exact ⟨by omega, by omega, ⟨rfl, by omega, e3⟩, by omega, by omega⟩
              · obtain rfl : c = (n - (1) + 2 - 1) / 2 := by omega
                generalize hM : (n - 1 + 2 - 1) / 2 = M at *
                refine ⟨⟨by omega, by omega⟩, ?_⟩
                simp only [subLo_eq, Nat.add_sub_cancel_left, Nat.add_sub_cancel_left]
                have ew : IntKind.i64.wrap ((M : Int) - 1) = (M : Int) - 1 := mid_w (by omega)
                simp only [ew]
                refine Loop.keep [0, 1, 0] Nat (fun t => [(2, .int .i64 t), (3, .int .i64 ((M : Int) - 1 - t))]) (fun t => [(1, .own false 1 (A + M) (fun q => encI (revL (progL 0 2 A ++ progL 1 2 M) A M t q)))]) [] (fun t => 2 * t ≤ M) (fun t => M - t) ?_ ?_
                · refine ⟨0, by omega, ?_⟩
                  dsimp only [go_sem, Option.bind, Option.map, List.append_nil, Nat.beq, List.cons_append, List.nil_append, List.append_eq, List.map_cons, List.map_nil, ite_self, reduceIte]
                  simp only [leS_mk, leL_cons, leL_nil, le_junk, le_int, le_bool, le_nil, leLL_nil, leLL_cons, leH_cons, leH_nil, leH1_box, leH1_own, leH1_gone, le_vs, le_agg, le_tup, le_ptr, le_own, le_xp, le_fn, le_opt, le_val, le_elem, le_nil_own, le_nil_vs, leH_ghost, leL_chunk, leXL_id, bnd_int, bnd_bool, bnd_val, bnd_nil, bnd_junk, bnd_vs, bnd_xp, bnd_agg, bnd_tup, bnd_ptr, bnd_own, bnd_elem, bnd_fn, bnd_iface, bnd_opt, bndL_nil, bndL_cons, lenH_cons, lenH_nil, imp_self, implies_true, true_and, and_true]
                  exact ⟨⟨by omega, rfl, by omega⟩, ⟨by omega, by omega⟩, ⟨fun q hq => by rw [rev_0 (by omega)]; exact leL_self [.int _ _] ⟨trivial, trivial⟩, by omega⟩⟩
                · rintro t ht
                  dsimp only [v42, v43, K0_ct42, K0_fn42, K0_ct43, K0_fn43, encI, Int.toNat_natCast, go_sem, Option.bind, Option.map, List.append_nil, Nat.beq, List.cons_append, List.nil_append, List.append_eq, List.map_cons, List.map_nil, ite_self, reduceIte]
                  simp only [true_and, and_true, imp_self, implies_true, decide_eq_true_eq, decide_eq_false_iff_not, Nat.reduceAdd, Nat.reduceLeDiff, Bool.not_not, reduceCtorEq, false_imp_iff, Bool.not_eq_true', Bool.not_eq_false', Bool.false_eq_true, and_self, forall_const, ne_eq, not_false_eq_true, Nat.reduceEqDiff]
                  refine ⟨fun hlt => ?_, fun hge => ?_⟩
                  · obtain ⟨u, hu⟩ : ∃ u : Nat, (M : Int) - 1 - (t : Int) = (u : Int) := ⟨M - 1 - t, by omega⟩
                    simp only [hu, Int.toNat_natCast, addLo_eq]
                    refine ⟨⟨by omega, by omega⟩, by omega, ⟨by omega, by omega⟩, by omega, ⟨by omega, by omega⟩, by omega, ⟨by omega, by omega⟩, by omega, t + 1, by omega, by omega, ?_⟩
                    have w1 : IntKind.i64.wrap ((t : Int) + 1) = ((t + 1 : Nat) : Int) := by rw [mid_w (by omega)]; omega
                    have w2 : IntKind.i64.wrap ((u : Int) - 1) = (M : Int) - 1 - ((t + 1 : Nat) : Int) := by rw [mid_w (by omega)]; omega
                    have hs : ∀ q, q < (A + M) → revL (progL 0 2 A ++ progL 1 2 M) A M (t + 1) q = if q = A + u then revL (progL 0 2 A ++ progL 1 2 M) A M t (A + t) else if q = A + t then revL (progL 0 2 A ++ progL 1 2 M) A M t (A + u) else revL (progL 0 2 A ++ progL 1 2 M) A M t q := fun q hq => rev_step (by omega) (by omega) (by omega)
                    simp only [w1, w2, if_neg (show ¬ A + u = A + t by omega)]
                    dsimp only [go_sem, Option.bind, Option.map, List.append_nil, Nat.beq, List.cons_append, List.nil_append, List.append_eq, List.map_cons, List.map_nil, ite_self, reduceIte]
                    simp only [leS_mk, leL_cons, leL_nil, le_junk, le_int, le_bool, le_nil, leLL_nil, leLL_cons, leH_cons, leH_nil, leH1_box, leH1_own, leH1_gone, le_vs, le_agg, le_tup, le_ptr, le_own, le_xp, le_fn, le_opt, le_val, le_elem, le_nil_own, le_nil_vs, leH_ghost, leL_chunk, leXL_id, bnd_int, bnd_bool, bnd_val, bnd_nil, bnd_junk, bnd_vs, bnd_xp, bnd_agg, bnd_tup, bnd_ptr, bnd_own, bnd_elem, bnd_fn, bnd_iface, bnd_opt, bndL_nil, bndL_cons, lenH_cons, lenH_nil, imp_self, implies_true, true_and, and_true]
                    refine ⟨by omega, ⟨by omega, by omega⟩, fun q hq => ?_, by omega⟩
                    rw [hs q hq]
                    by_cases h1 : q = A + u
                    · simp only [if_pos h1]; exact leL_self [.int _ _] ⟨trivial, trivial⟩
                    · by_cases h2 : q = A + t
                      · simp only [if_neg h1, if_pos h2]; exact leL_self [.int _ _] ⟨trivial, trivial⟩
                      · simp only [if_neg h1, if_neg h2]; exact leL_self [.int _ _] ⟨trivial, trivial⟩
                  · have hge2 := hge
                    have hT : orderL n 2 = progL 0 2 ((n - 0 + 2 - 1) / 2) ++ (progL 1 2 ((n - 1 + 2 - 1) / 2)).reverse := rfl
                    rw [hA, hM] at hT
                    rw [hT] at h
                    refine ans_le (h false) ?_ ?_
                    · dsimp only [expo, encI, go_sem, Option.bind, Option.map, List.append_nil, Nat.beq, List.cons_append, List.nil_append, List.append_eq, List.map_cons, List.map_nil, ite_self, reduceIte]
                      simp only [List.length_append, List.length_reverse, prog_len, leS_mk, leL_cons, leL_nil, le_junk, le_int, le_bool, le_nil, leLL_nil, leLL_cons, leH_cons, leH_nil, leH1_box, leH1_own, leH1_gone, le_vs, le_agg, le_tup, le_ptr, le_own, le_xp, le_fn, le_opt, le_val, le_elem, le_nil_own, le_nil_vs, leH_ghost, leL_chunk, leXL_id, bnd_int, bnd_bool, bnd_val, bnd_nil, bnd_junk, bnd_vs, bnd_xp, bnd_agg, bnd_tup, bnd_ptr, bnd_own, bnd_elem, bnd_fn, bnd_iface, bnd_opt, bndL_nil, bndL_cons, lenH_cons, lenH_nil, imp_self, implies_true, true_and, and_true]
                      try simp only [true_and]
                      intro q hq
                      rw [rev_end (L1 := progL 0 2 A) (P := progL (1) 2 M) (prog_len _ _ _) (prog_len _ _ _) (by omega) (by omega) hq]
                      exact leXL_self _
                    · intro _; simp [freshS, freshL, encI]
      · obtain rfl : kd = 3 := by omega
        refine Loop.keepP 1 [0, 0, 0, 0, 0, 3] Nat (fun c => [(9, .int .i64 ((0 + c * 2 : Nat) : Int))]) (fun c => [(1, .own false 1 (0 + c) (fun q => encI ((([] : List Nat) ++ progL (0) 2 c).getD q default))), (2, .box [.own 1 0 (0 + c) 1])]) [] (fun c => c ≤ (n - (0) + 2 - 1) / 2) (fun c => (n - (0) + 2 - 1) / 2 - c) ?_ ?_
        · refine ⟨0, Nat.zero_le _, ?_⟩
          dsimp only [go_sem, Option.bind, Option.map, List.append_nil, Nat.beq, List.cons_append, List.nil_append, List.append_eq, List.map_cons, List.map_nil, ite_self, reduceIte]
          simp only [Bool.or_self, leS_mk, leL_cons, leL_nil, le_junk, le_int, le_bool, le_nil, leLL_nil, leLL_cons, leH_cons, leH_nil, leH1_box, leH1_own, leH1_gone, le_vs, le_agg, le_tup, le_ptr, le_own, le_xp, le_fn, le_opt, le_val, le_elem, le_nil_own, le_nil_vs, leH_ghost, leL_chunk, leXL_id, bnd_int, bnd_bool, bnd_val, bnd_nil, bnd_junk, bnd_vs, bnd_xp, bnd_agg, bnd_tup, bnd_ptr, bnd_own, bnd_elem, bnd_fn, bnd_iface, bnd_opt, bndL_nil, bndL_cons, lenH_cons, lenH_nil, imp_self, implies_true, true_and, and_true]
          simp [prog_0, leL, le, encI]
        · rintro c hc
          dsimp only [v42, v43, K0_ct42, K0_fn42, K0_ct43, K0_fn43, encI, Int.toNat_natCast, go_sem, Option.bind, Option.map, List.append_nil, Nat.beq, List.cons_append, List.nil_append, List.append_eq, List.map_cons, List.map_nil, ite_self, reduceIte]
          simp only [true_and, and_true, imp_self, implies_true, decide_eq_true_eq, decide_eq_false_iff_not, Nat.reduceAdd, Nat.reduceLeDiff, Bool.not_not, reduceCtorEq, false_imp_iff, Bool.not_eq_true', Bool.not_eq_false', Bool.false_eq_true, and_self, forall_const, ne_eq, not_false_eq_true, Nat.reduceEqDiff]
          refine ⟨fun hlt => ?_, fun hge => ?_⟩
          · refine ⟨by decide, ⟨by unfold capOk; omega, fun q hq => match q, hq with | 0, _ => ⟨rfl, trivial, trivial⟩⟩, c + 1, by omega, by omega, ?_⟩
            have hw : IntKind.i64.wrap (((0 + c * 2 : Nat) : Int) + 2) = ((0 + (c + 1) * 2 : Nat) : Int) := by rw [mid_w (by omega)]; omega
            simp only [Bool.or_self, refs, refsL, nb21, nb01, hw, leS_mk, leL_cons, leL_nil, le_junk, le_int, le_bool, le_nil, leLL_nil, leLL_cons, leH_cons, leH_nil, leH1_box, leH1_own, leH1_gone, le_vs, le_agg, le_tup, le_ptr, le_own, le_xp, le_fn, le_opt, le_val, le_elem, le_nil_own, le_nil_vs, leH_ghost, leL_chunk, leXL_id, bnd_int, bnd_bool, bnd_val, bnd_nil, bnd_junk, bnd_vs, bnd_xp, bnd_agg, bnd_tup, bnd_ptr, bnd_own, bnd_elem, bnd_fn, bnd_iface, bnd_opt, bndL_nil, bndL_cons, lenH_cons, lenH_nil, imp_self, implies_true, true_and, and_true]
            have e1 : ([] : List Nat) ++ progL (0) 2 (c + 1) = (([] : List Nat) ++ progL (0) 2 c) ++ [0 + c * 2] := by rw [prog_succ, List.append_assoc]
            have e2 : (([] : List Nat) ++ progL (0) 2 c).length = 0 + c := by rw [List.length_append, prog_len]; simp
            have e3 : ∀ q, q < 0 + c + 1 → leL (0 + 1 + 1 + 1 + 1) (0 + 1 + 1 + 1) (if q < 0 + c then [SV.int IntKind.i64 (((([] : List Nat) ++ progL (0) 2 c).getD q default : Nat) : Int)] else purgeL 1 (takeL 1 (dropL ((q - (0 + c)) * 1) [SV.int IntKind.i64 ((0 + c * 2 : Nat) : Int)]))) [SV.int IntKind.i64 (((([] : List Nat) ++ progL (0) 2 (c + 1)).getD q default : Nat) : Int)] := by
              intro q hq
              rw [e1, getD_app, e2]
              rcases Nat.lt_or_ge q (0 + c) with h' | h'
              · rw [if_pos h', if_pos h']; exact leL_self [.int _ _] ⟨trivial, trivial⟩
              · obtain rfl : q = 0 + c := by omega
                rw [if_neg (by omega), if_neg (by omega), if_pos rfl, Nat.sub_self]
                exact leL_self [.int _ _] ⟨trivial, trivial⟩
            exact ⟨by omega, by omega, ⟨rfl, by omega, e3⟩, by omega, by omega⟩
          · obtain rfl : c = (n - (0) + 2 - 1) / 2 := by omega
            generalize hM : (n - 0 + 2 - 1) / 2 = M at *
            refine ⟨⟨by omega, by omega⟩, ?_⟩
            simp only [subLo_eq, Nat.add_sub_cancel_left, Nat.zero_add]
            have ew : IntKind.i64.wrap ((M : Int) - 1) = (M : Int) - 1 := mid_w (by omega)
            simp only [ew]
            refine Loop.keep [0, 1, 0] Nat (fun t => [(2, .int .i64 t), (3, .int .i64 ((M : Int) - 1 - t))]) (fun t => [(1, .own false 1 M (fun q => encI (revL (progL 0 2 M) 0 M t q)))]) [] (fun t => 2 * t ≤ M) (fun t => M - t) ?_ ?_
            · refine ⟨0, by omega, ?_⟩
              dsimp only [go_sem, Option.bind, Option.map, List.append_nil, Nat.beq, List.cons_append, List.nil_append, List.append_eq, List.map_cons, List.map_nil, ite_self, reduceIte]
              simp only [leS_mk, leL_cons, leL_nil, le_junk, le_int, le_bool, le_nil, leLL_nil, leLL_cons, leH_cons, leH_nil, leH1_box, leH1_own, leH1_gone, le_vs, le_agg, le_tup, le_ptr, le_own, le_xp, le_fn, le_opt, le_val, le_elem, le_nil_own, le_nil_vs, leH_ghost, leL_chunk, leXL_id, bnd_int, bnd_bool, bnd_val, bnd_nil, bnd_junk, bnd_vs, bnd_xp, bnd_agg, bnd_tup, bnd_ptr, bnd_own, bnd_elem, bnd_fn, bnd_iface, bnd_opt, bndL_nil, bndL_cons, lenH_cons, lenH_nil, imp_self, implies_true, true_and, and_true]
              exact ⟨⟨by omega, rfl, by omega⟩, ⟨by omega, by omega⟩, ⟨fun q hq => by rw [rev_0 (by omega)]; exact leL_self [.int _ _] ⟨trivial, trivial⟩, by omega⟩⟩
            · rintro t ht
              dsimp only [v42, v43, K0_ct42, K0_fn42, K0_ct43, K0_fn43, encI, Int.toNat_natCast, go_sem, Option.bind, Option.map, List.append_nil, Nat.beq, List.cons_append, List.nil_append, List.append_eq, List.map_cons, List.map_nil, ite_self, reduceIte]
              simp only [true_and, and_true, imp_self, implies_true, decide_eq_true_eq, decide_eq_false_iff_not, Nat.reduceAdd, Nat.reduceLeDiff, Bool.not_not, reduceCtorEq, false_imp_iff, Bool.not_eq_true', Bool.not_eq_false', Bool.false_eq_true, and_self, forall_const, ne_eq, not_false_eq_true, Nat.reduceEqDiff]
              refine ⟨fun hlt => ?_, fun hge => ?_⟩
              · obtain ⟨u, hu⟩ : ∃ u : Nat, (M : Int) - 1 - (t : Int) = (u : Int) := ⟨M - 1 - t, by omega⟩
                simp only [hu, Int.toNat_natCast, addLo_eq]
                refine ⟨⟨by omega, by omega⟩, by omega, ⟨by omega, by omega⟩, by omega, ⟨by omega, by omega⟩, by omega, ⟨by omega, by omega⟩, by omega, t + 1, by omega, by omega, ?_⟩
                have w1 : IntKind.i64.wrap ((t : Int) + 1) = ((t + 1 : Nat) : Int) := by rw [mid_w (by omega)]; omega
                have w2 : IntKind.i64.wrap ((u : Int) - 1) = (M : Int) - 1 - ((t + 1 : Nat) : Int) := by rw [mid_w (by omega)]; omega
                have hs : ∀ q, q < M → revL (progL 0 2 M) 0 M (t + 1) q = if q = u then revL (progL 0 2 M) 0 M t (t) else if q = t then revL (progL 0 2 M) 0 M t (u) else revL (progL 0 2 M) 0 M t q := fun q hq => by have e := rev_step (L := progL 0 2 M) (A := 0) (M := M) (t := t) (u := u) (q := q) (by omega) (by omega) (by omega); simpa only [Nat.zero_add] using e
                simp only [w1, w2, if_neg (show ¬ u = t by omega)]
                dsimp only [go_sem, Option.bind, Option.map, List.append_nil, Nat.beq, List.cons_append, List.nil_append, List.append_eq, List.map_cons, List.map_nil, ite_self, reduceIte]
                simp only [leS_mk, leL_cons, leL_nil, le_junk, le_int, le_bool, le_nil, leLL_nil, leLL_cons, leH_cons, leH_nil, leH1_box, leH1_own, leH1_gone, le_vs, le_agg, le_tup, le_ptr, le_own, le_xp, le_fn, le_opt, le_val, le_elem, le_nil_own, le_nil_vs, leH_ghost, leL_chunk, leXL_id, bnd_int, bnd_bool, bnd_val, bnd_nil, bnd_junk, bnd_vs, bnd_xp, bnd_agg, bnd_tup, bnd_ptr, bnd_own, bnd_elem, bnd_fn, bnd_iface, bnd_opt, bndL_nil, bndL_cons, lenH_cons, lenH_nil, imp_self, implies_true, true_and, and_true]
                refine ⟨by omega, ⟨by omega, by omega⟩, fun q hq => ?_, by omega⟩
                rw [hs q hq]
                by_cases h1 : q = u
                · simp only [if_pos h1]; exact leL_self [.int _ _] ⟨trivial, trivial⟩
                · by_cases h2 : q = t
                  · simp only [if_neg h1, if_pos h2]; exact leL_self [.int _ _] ⟨trivial, trivial⟩
                  · simp only [if_neg h1, if_neg h2]; exact leL_self [.int _ _] ⟨trivial, trivial⟩
              · have hge2 := hge
                skip
                refine Loop.keepP 1 [0, 0, 0, 0, 0, 3] Nat (fun c => [(9, .int .i64 ((1 + c * 2 : Nat) : Int))]) (fun c => [(1, .own false 1 (M + c) (fun q => encI ((((progL 0 2 M).reverse) ++ progL (1) 2 c).getD q default))), (2, .box [.own 1 0 (M + c) 1])]) [] (fun c => c ≤ (n - (1) + 2 - 1) / 2) (fun c => (n - (1) + 2 - 1) / 2 - c) ?_ ?_
                · refine ⟨0, Nat.zero_le _, ?_⟩
                  dsimp only [go_sem, Option.bind, Option.map, List.append_nil, Nat.beq, List.cons_append, List.nil_append, List.append_eq, List.map_cons, List.map_nil, ite_self, reduceIte]
                  simp only [Bool.or_self, leS_mk, leL_cons, leL_nil, le_junk, le_int, le_bool, le_nil, leLL_nil, leLL_cons, leH_cons, leH_nil, leH1_box, leH1_own, leH1_gone, le_vs, le_agg, le_tup, le_ptr, le_own, le_xp, le_fn, le_opt, le_val, le_elem, le_nil_own, le_nil_vs, leH_ghost, leL_chunk, leXL_id, bnd_int, bnd_bool, bnd_val, bnd_nil, bnd_junk, bnd_vs, bnd_xp, bnd_agg, bnd_tup, bnd_ptr, bnd_own, bnd_elem, bnd_fn, bnd_iface, bnd_opt, bndL_nil, bndL_cons, lenH_cons, lenH_nil, imp_self, implies_true, true_and, and_true]
                  refine ⟨by omega, by omega, ⟨by omega, fun q hq => ?_⟩, by omega, by omega⟩
                  rw [prog_0, List.append_nil]
                  have e := rev_end (L1 := ([] : List Nat)) (P := progL 0 2 M) (A := 0) (M := M) (t := t) (q := q) rfl (prog_len _ _ _) (by omega) (by omega) (by omega)
                  rw [List.nil_append, List.nil_append] at e
                  rw [e]
                  exact leL_self [.int _ _] ⟨trivial, trivial⟩
                · rintro c hc
                  dsimp only [v42, v43, K0_ct42, K0_fn42, K0_ct43, K0_fn43, encI, Int.toNat_natCast, go_sem, Option.bind, Option.map, List.append_nil, Nat.beq, List.cons_append, List.nil_append, List.append_eq, List.map_cons, List.map_nil, ite_self, reduceIte]
                  simp only [true_and, and_true, imp_self, implies_true, decide_eq_true_eq, decide_eq_false_iff_not, Nat.reduceAdd, Nat.reduceLeDiff, Bool.not_not, reduceCtorEq, false_imp_iff, Bool.not_eq_true', Bool.not_eq_false', Bool.false_eq_true, and_self, forall_const, ne_eq, not_false_eq_true, Nat.reduceEqDiff]
                  refine ⟨fun hlt => ?_, fun hge => ?_⟩
                  · refine ⟨by decide, ⟨by unfold capOk; omega, fun q hq => match q, hq with | 0, _ => ⟨rfl, trivial, trivial⟩⟩, c + 1, by omega, by omega, ?_⟩
                    have hw : IntKind.i64.wrap (((1 + c * 2 : Nat) : Int) + 2) = ((1 + (c + 1) * 2 : Nat) : Int) := by rw [mid_w (by omega)]; omega
                    simp only [Bool.or_self, refs, refsL, nb21, nb01, hw, leS_mk, leL_cons, leL_nil, le_junk, le_int, le_bool, le_nil, leLL_nil, leLL_cons, leH_cons, leH_nil, leH1_box, leH1_own, leH1_gone, le_vs, le_agg, le_tup, le_ptr, le_own, le_xp, le_fn, le_opt, le_val, le_elem, le_nil_own, le_nil_vs, leH_ghost, leL_chunk, leXL_id, bnd_int, bnd_bool, bnd_val, bnd_nil, bnd_junk, bnd_vs, bnd_xp, bnd_agg, bnd_tup, bnd_ptr, bnd_own, bnd_elem, bnd_fn, bnd_iface, bnd_opt, bndL_nil, bndL_cons, lenH_cons, lenH_nil, imp_self, implies_true, true_and, and_true]
                    have e1 : ((progL 0 2 M).reverse) ++ progL (1) 2 (c + 1) = (((progL 0 2 M).reverse) ++ progL (1) 2 c) ++ [1 + c * 2] := by rw [prog_succ, List.append_assoc]
                    have e2 : (((progL 0 2 M).reverse) ++ progL (1) 2 c).length = M + c := by rw [List.length_append, prog_len]; rw [List.length_reverse, prog_len]
                    have e3 : ∀ q, q < M + c + 1 → leL (0 + 1 + 1 + 1 + 1) (0 + 1 + 1 + 1) (if q < M + c then [SV.int IntKind.i64 (((((progL 0 2 M).reverse) ++ progL (1) 2 c).getD q default : Nat) : Int)] else purgeL 1 (takeL 1 (dropL ((q - (M + c)) * 1) [SV.int IntKind.i64 ((1 + c * 2 : Nat) : Int)]))) [SV.int IntKind.i64 (((((progL 0 2 M).reverse) ++ progL (1) 2 (c + 1)).getD q default : Nat) : Int)] := by
                      intro q hq
                      rw [e1, getD_app, e2]
                      rcases Nat.lt_or_ge q (M + c) with h' | h'
                      · rw [if_pos h', if_pos h']; exact leL_self [.int _ _] ⟨trivial, trivial⟩
                      · obtain rfl : q = M + c := by omega
                        rw [if_neg (by omega), if_neg (by omega), if_pos rfl, Nat.sub_self]
                        exact leL_self [.int _ _] ⟨trivial, trivial⟩
                    exact ⟨by omega, by omega, ⟨rfl, by omega, e3⟩, by omega, by omega⟩
                  · obtain rfl : c = (n - (1) + 2 - 1) / 2 := by omega
                    generalize hB : (n - 1 + 2 - 1) / 2 = B at *
                    have hT : orderL n 3 = (progL 0 2 ((n - 0 + 2 - 1) / 2)).reverse ++ progL 1 2 ((n - 1 + 2 - 1) / 2) := rfl
                    rw [hM, hB] at hT
                    rw [hT] at h
                    refine ans_le (h false) ?_ ?_
                    · dsimp only [expo, encI, go_sem, Option.bind, Option.map, List.append_nil, Nat.beq, List.cons_append, List.nil_append, List.append_eq, List.map_cons, List.map_nil, ite_self, reduceIte]
                      simp only [List.length_append, List.length_reverse, prog_len, leS_mk, leL_cons, leL_nil, le_junk, le_int, le_bool, le_nil, leLL_nil, leLL_cons, leH_cons, leH_nil, leH1_box, leH1_own, leH1_gone, le_vs, le_agg, le_tup, le_ptr, le_own, le_xp, le_fn, le_opt, le_val, le_elem, le_nil_own, le_nil_vs, leH_ghost, leL_chunk, leXL_id, bnd_int, bnd_bool, bnd_val, bnd_nil, bnd_junk, bnd_vs, bnd_xp, bnd_agg, bnd_tup, bnd_ptr, bnd_own, bnd_elem, bnd_fn, bnd_iface, bnd_opt, bndL_nil, bndL_cons, lenH_cons, lenH_nil, imp_self, implies_true, true_and, and_true] <;> simp
                    · intro _; simp [freshS, freshL, encI]
      · obtain rfl : kd = 4 := by omega
        refine Loop.keep [2, 3, 0] Nat (fun f => [(26, .int .i64 f)]) (fun f => [(1, .own false 1 (accL n f).length (fun q => encI ((accL n f).getD q default))), (2, .box [.own 1 0 (accL n f).length 1])]) [] (fun f => f ≤ 4) (fun f => 4 - f) ?_ ?_
        · refine ⟨0, by omega, ?_⟩
          dsimp only [go_sem, Option.bind, Option.map, List.append_nil, Nat.beq, List.cons_append, List.nil_append, List.append_eq, List.map_cons, List.map_nil, ite_self, reduceIte]
          simp only [leS_mk, leL_cons, leL_nil, le_junk, le_int, le_bool, le_nil, leLL_nil, leLL_cons, leH_cons, leH_nil, leH1_box, leH1_own, leH1_gone, le_vs, le_agg, le_tup, le_ptr, le_own, le_xp, le_fn, le_opt, le_val, le_elem, le_nil_own, le_nil_vs, leH_ghost, leL_chunk, leXL_id, bnd_int, bnd_bool, bnd_val, bnd_nil, bnd_junk, bnd_vs, bnd_xp, bnd_agg, bnd_tup, bnd_ptr, bnd_own, bnd_elem, bnd_fn, bnd_iface, bnd_opt, bndL_nil, bndL_cons, lenH_cons, lenH_nil, imp_self, implies_true, true_and, and_true]
          simp [accL]
        · rintro f hf4
          dsimp only [v42, v43, K0_ct42, K0_fn42, K0_ct43, K0_fn43, encI, Int.toNat_natCast, go_sem, Option.bind, Option.map, List.append_nil, Nat.beq, List.cons_append, List.nil_append, List.append_eq, List.map_cons, List.map_nil, ite_self, reduceIte]
          simp only [true_and, and_true, imp_self, implies_true, decide_eq_true_eq, decide_eq_false_iff_not, Nat.reduceAdd, Nat.reduceLeDiff, Bool.not_not, reduceCtorEq, false_imp_iff, Bool.not_eq_true', Bool.not_eq_false', Bool.false_eq_true, and_self, forall_const, ne_eq, not_false_eq_true, Nat.reduceEqDiff]
          have hal := acc_le f hn (by omega)
          refine ⟨fun hlf => ?_, fun hgf => ?_⟩
          · refine Loop.keepP 1 [0, 0, 0, 0, 0, 3] Nat (fun c => [(9, .int .i64 ((f + c * 4 : Nat) : Int))]) (fun c => [(1, .own false 1 ((accL n f).length + c) (fun q => encI (((accL n f) ++ progL (f) 4 c).getD q default))), (2, .box [.own 1 0 ((accL n f).length + c) 1])]) [] (fun c => c ≤ (n - (f) + 4 - 1) / 4) (fun c => (n - (f) + 4 - 1) / 4 - c) ?_ ?_
            · refine ⟨0, Nat.zero_le _, ?_⟩
              dsimp only [go_sem, Option.bind, Option.map, List.append_nil, Nat.beq, List.cons_append, List.nil_append, List.append_eq, List.map_cons, List.map_nil, ite_self, reduceIte]
              simp only [Bool.or_self, leS_mk, leL_cons, leL_nil, le_junk, le_int, le_bool, le_nil, leLL_nil, leLL_cons, leH_cons, leH_nil, leH1_box, leH1_own, leH1_gone, le_vs, le_agg, le_tup, le_ptr, le_own, le_xp, le_fn, le_opt, le_val, le_elem, le_nil_own, le_nil_vs, leH_ghost, leL_chunk, leXL_id, bnd_int, bnd_bool, bnd_val, bnd_nil, bnd_junk, bnd_vs, bnd_xp, bnd_agg, bnd_tup, bnd_ptr, bnd_own, bnd_elem, bnd_fn, bnd_iface, bnd_opt, bndL_nil, bndL_cons, lenH_cons, lenH_nil, imp_self, implies_true, true_and, and_true]
              exact ⟨⟨by omega, by omega, by omega⟩, by omega, ⟨by omega, fun q hq => by rw [prog_0, List.append_nil]; exact leL_self [.int _ _] ⟨trivial, trivial⟩⟩, by omega, by omega⟩
            · rintro c hc
              dsimp only [v42, v43, K0_ct42, K0_fn42, K0_ct43, K0_fn43, encI, Int.toNat_natCast, go_sem, Option.bind, Option.map, List.append_nil, Nat.beq, List.cons_append, List.nil_append, List.append_eq, List.map_cons, List.map_nil, ite_self, reduceIte]
              simp only [true_and, and_true, imp_self, implies_true, decide_eq_true_eq, decide_eq_false_iff_not, Nat.reduceAdd, Nat.reduceLeDiff, Bool.not_not, reduceCtorEq, false_imp_iff, Bool.not_eq_true', Bool.not_eq_false', Bool.false_eq_true, and_self, forall_const, ne_eq, not_false_eq_true, Nat.reduceEqDiff]
              refine ⟨fun hlt => ?_, fun hge => ?_⟩
              · refine ⟨by decide, ⟨by unfold capOk; omega, fun q hq => match q, hq with | 0, _ => ⟨rfl, trivial, trivial⟩⟩, c + 1, by omega, by omega, ?_⟩
                have hw : IntKind.i64.wrap (((f + c * 4 : Nat) : Int) + 4) = ((f + (c + 1) * 4 : Nat) : Int) := by rw [mid_w (by omega)]; omega
                simp only [Bool.or_self, refs, refsL, nb21, nb01, hw, leS_mk, leL_cons, leL_nil, le_junk, le_int, le_bool, le_nil, leLL_nil, leLL_cons, leH_cons, leH_nil, leH1_box, leH1_own, leH1_gone, le_vs, le_agg, le_tup, le_ptr, le_own, le_xp, le_fn, le_opt, le_val, le_elem, le_nil_own, le_nil_vs, leH_ghost, leL_chunk, leXL_id, bnd_int, bnd_bool, bnd_val, bnd_nil, bnd_junk, bnd_vs, bnd_xp, bnd_agg, bnd_tup, bnd_ptr, bnd_own, bnd_elem, bnd_fn, bnd_iface, bnd_opt, bndL_nil, bndL_cons, lenH_cons, lenH_nil, imp_self, implies_true, true_and, and_true]
                have e1 : (accL n f) ++ progL (f) 4 (c + 1) = ((accL n f) ++ progL (f) 4 c) ++ [f + c * 4] := by rw [prog_succ, List.append_assoc]
                have e2 : ((accL n f) ++ progL (f) 4 c).length = (accL n f).length + c := by rw [List.length_append, prog_len]; try rfl
                have e3 : ∀ q, q < (accL n f).length + c + 1 → leL (0 + 1 + 1 + 1 + 1) (0 + 1 + 1 + 1) (if q < (accL n f).length + c then [SV.int IntKind.i64 ((((accL n f) ++ progL (f) 4 c).getD q default : Nat) : Int)] else purgeL 1 (takeL 1 (dropL ((q - ((accL n f).length + c)) * 1) [SV.int IntKind.i64 ((f + c * 4 : Nat) : Int)]))) [SV.int IntKind.i64 ((((accL n f) ++ progL (f) 4 (c + 1)).getD q default : Nat) : Int)] := by
                  intro q hq
                  rw [e1, getD_app, e2]
                  rcases Nat.lt_or_ge q ((accL n f).length + c) with h' | h'
                  · rw [if_pos h', if_pos h']; exact leL_self [.int _ _] ⟨trivial, trivial⟩
                  · obtain rfl : q = (accL n f).length + c := by omega
                    rw [if_neg (by omega), if_neg (by omega), if_pos rfl, Nat.sub_self]
                    exact leL_self [.int _ _] ⟨trivial, trivial⟩
                exact ⟨by omega, by omega, ⟨rfl, by omega, e3⟩, by omega, by omega⟩
              · obtain rfl : c = (n - (f) + 4 - 1) / 4 := by omega
                refine ⟨f + 1, by omega, by omega, ?_⟩
                have wf : IntKind.i64.wrap ((f : Int) + 1) = ((f + 1 : Nat) : Int) := by rw [mid_w (by omega)]; omega
                have ea : accL n (f + 1) = accL n f ++ progL f 4 ((n - f + 4 - 1) / 4) := rfl
                simp only [wf, ea, List.length_append, prog_len, leS_mk, leL_cons, leL_nil, le_junk, le_int, le_bool, le_nil, leLL_nil, leLL_cons, leH_cons, leH_nil, leH1_box, leH1_own, leH1_gone, le_vs, le_agg, le_tup, le_ptr, le_own, le_xp, le_fn, le_opt, le_val, le_elem, le_nil_own, le_nil_vs, leH_ghost, leL_chunk, leXL_id, bnd_int, bnd_bool, bnd_val, bnd_nil, bnd_junk, bnd_vs, bnd_xp, bnd_agg, bnd_tup, bnd_ptr, bnd_own, bnd_elem, bnd_fn, bnd_iface, bnd_opt, bndL_nil, bndL_cons, lenH_cons, lenH_nil, imp_self, implies_true, true_and, and_true]
                omega
          · obtain rfl : f = 4 := by omega
            have hT : orderL n 4 = accL n 4 := rfl
            rw [hT] at h
            refine ans_le (h false) ?_ ?_
            · dsimp only [expo, encI, go_sem, Option.bind, Option.map, List.append_nil, Nat.beq, List.cons_append, List.nil_append, List.append_eq, List.map_cons, List.map_nil, ite_self, reduceIte]
              simp only [leS_mk, leL_cons, leL_nil, le_junk, le_int, le_bool, le_nil, leLL_nil, leLL_cons, leH_cons, leH_nil, leH1_box, leH1_own, leH1_gone, le_vs, le_agg, le_tup, le_ptr, le_own, le_xp, le_fn, le_opt, le_val, le_elem, le_nil_own, le_nil_vs, leH_ghost, leL_chunk, leXL_id, bnd_int, bnd_bool, bnd_val, bnd_nil, bnd_junk, bnd_vs, bnd_xp, bnd_agg, bnd_tup, bnd_ptr, bnd_own, bnd_elem, bnd_fn, bnd_iface, bnd_opt, bndL_nil, bndL_cons, lenH_cons, lenH_nil, imp_self, implies_true, true_and, and_true]
            · intro _; simp [freshS, freshL, encI]
  · exact h.1.elim
end Go.Proofs.Ytojaibhjfeojjaa

/- Layouts, walked: the laws' helpers; the document's examples. -/
set_option linter.all false
namespace Go.Proofs.Ytojaibhjfeojjaa
open Go Go.Vx
set_option maxRecDepth 100000
set_option maxHeartbeats 4000000

def v13 : VF := { ntmps := 26, res := [.tmp 4], body :=
 (.seq (.region [⟨(some 4), none, .mov, [.cn (.bool false)]⟩])
 (.seq (.seq (.region [⟨(some 6), none, .mov, [.tm 0]⟩,
  ⟨(some 7), none, .len, [.tm 6]⟩,
  ⟨(some 8), none, .mov, [.tm 1]⟩,
  ⟨(some 9), none, .len, [.tm 8]⟩,
  ⟨(some 10), none, (.cmp .neq), [.tm 7, .tm 9]⟩])
 (.cond (.tm 10) (.seq (.region [⟨(some 4), none, .mov, [.cn (.bool false)]⟩])
 .ret)
  .skip))
 (.seq (.seq (.region [⟨(some 5), none, .mov, [.cn (.int .i64 0)]⟩])
 (.block 0 (.loop (.seq (.seq (.region [⟨(some 11), none, .mov, [.tm 5]⟩,
  ⟨(some 12), none, .mov, [.tm 0]⟩,
  ⟨(some 13), none, .len, [.tm 12]⟩,
  ⟨(some 14), none, (.cmp .lss), [.tm 11, .tm 13]⟩])
 (.cond (.tm 14) .skip
  (.exit 0)))
 (.seq (.block 1 (.seq (.draw [] [⟨⟨(some 17), none, .mov, [.tm 0]⟩, []⟩,
  ⟨⟨(some 18), none, .mov, [.tm 5]⟩, []⟩,
  ⟨⟨(some 19), none, (.idxAddr 4), [.tm 17, .tm 18]⟩, []⟩,
  ⟨⟨(some 20), none, (.load true 4), [.tm 19]⟩, []⟩,
  ⟨⟨(some 21), none, .mov, [.tm 1]⟩, []⟩,
  ⟨⟨(some 22), none, .mov, [.tm 5]⟩, []⟩,
  ⟨⟨(some 23), none, (.idxAddr 4), [.tm 21, .tm 22]⟩, []⟩,
  ⟨⟨(some 24), none, (.load true 4), [.tm 23]⟩, []⟩,
  ⟨⟨(some 25), none, (.eqv true [true, true, true, true]), [.tm 20, .tm 24]⟩, []⟩])
 (.cond (.tm 25) (.seq (.region [⟨(some 4), none, .mov, [.cn (.bool false)]⟩])
 .ret)
  .skip)))
 (.region [⟨(some 15), none, .mov, [.tm 5]⟩,
  ⟨(some 16), none, (.ari .add), [.tm 15, .cn (.int .i64 1)]⟩,
  ⟨(some 5), none, .mov, [.tm 16]⟩]))))))
 (.seq (.region [⟨(some 4), none, .mov, [.cn (.bool true)]⟩])
 .ret)))) }
theorem v13_is : vfunc Try.prog Try.f13 = some v13 := by kernel_rfl
def v16 : VF := { ntmps := 26, res := [.tmp 4], body :=
 (.seq (.region [⟨(some 4), none, .mov, [.cn (.bool false)]⟩])
 (.seq (.seq (.region [⟨(some 6), none, .mov, [.tm 0]⟩,
  ⟨(some 7), none, .len, [.tm 6]⟩,
  ⟨(some 8), none, .mov, [.tm 1]⟩,
  ⟨(some 9), none, .len, [.tm 8]⟩,
  ⟨(some 10), none, (.cmp .neq), [.tm 7, .tm 9]⟩])
 (.cond (.tm 10) (.seq (.region [⟨(some 4), none, .mov, [.cn (.bool false)]⟩])
 .ret)
  .skip))
 (.seq (.seq (.region [⟨(some 5), none, .mov, [.cn (.int .i64 0)]⟩])
 (.block 0 (.loop (.seq (.seq (.region [⟨(some 11), none, .mov, [.tm 5]⟩,
  ⟨(some 12), none, .mov, [.tm 0]⟩,
  ⟨(some 13), none, .len, [.tm 12]⟩,
  ⟨(some 14), none, (.cmp .lss), [.tm 11, .tm 13]⟩])
 (.cond (.tm 14) .skip
  (.exit 0)))
 (.seq (.block 1 (.seq (.draw [] [⟨⟨(some 17), none, .mov, [.tm 0]⟩, []⟩,
  ⟨⟨(some 18), none, .mov, [.tm 5]⟩, []⟩,
  ⟨⟨(some 19), none, (.idxAddr 1), [.tm 17, .tm 18]⟩, []⟩,
  ⟨⟨(some 20), none, (.load false 1), [.tm 19]⟩, []⟩,
  ⟨⟨(some 21), none, .mov, [.tm 1]⟩, []⟩,
  ⟨⟨(some 22), none, .mov, [.tm 5]⟩, []⟩,
  ⟨⟨(some 23), none, (.idxAddr 1), [.tm 21, .tm 22]⟩, []⟩,
  ⟨⟨(some 24), none, (.load false 1), [.tm 23]⟩, []⟩,
  ⟨⟨(some 25), none, (.cmp .neq), [.tm 20, .tm 24]⟩, []⟩])
 (.cond (.tm 25) (.seq (.region [⟨(some 4), none, .mov, [.cn (.bool false)]⟩])
 .ret)
  .skip)))
 (.region [⟨(some 15), none, .mov, [.tm 5]⟩,
  ⟨(some 16), none, (.ari .add), [.tm 15, .cn (.int .i64 1)]⟩,
  ⟨(some 5), none, .mov, [.tm 16]⟩]))))))
 (.seq (.region [⟨(some 4), none, .mov, [.cn (.bool true)]⟩])
 .ret)))) }
theorem v16_is : vfunc Try.prog Try.f16 = some v16 := by kernel_rfl
def v20 : VF := { ntmps := 24, res := [.tmp 4], body :=
 (.seq (.region [⟨(some 2), none, .box, [.tm 0]⟩,
  ⟨(some 4), none, .mov, [.cn (.bool false)]⟩])
 (.seq (.region [⟨(some 5), none, .mov, [.tm 1]⟩,
  ⟨(some 6), none, .len, [.tm 5]⟩,
  ⟨(some 7), none, (.cmp .gtr), [.tm 6, .cn (.int .i64 40)]⟩,
  ⟨(some 8), none, .mov, [.tm 7]⟩,
  ⟨(some 9), (some (8, true)), .mov, [.tm 1]⟩,
  ⟨(some 10), (some (8, true)), .len, [.tm 9]⟩,
  ⟨(some 11), (some (8, true)), (.cmp .leq), [.tm 10, .cn (.int .i64 200)]⟩,
  ⟨(some 12), none, .and, [.tm 8, .tm 11]⟩,
  ⟨(some 13), none, .mov, [.tm 12]⟩,
  ⟨(some 14), (some (13, false)), .mov, [.tm 1]⟩,
  ⟨(some 15), (some (13, false)), .len, [.tm 14]⟩,
  ⟨(some 16), (some (13, false)), (.cmp .gtr), [.tm 15, .cn (.int .i64 210)]⟩,
  ⟨(some 17), none, .or, [.tm 13, .tm 16]⟩,
  ⟨(some 18), none, .mov, [.tm 17]⟩,
  ⟨(some 19), (some (18, false)), (.fieldAddr 5), [.tm 2]⟩,
  ⟨(some 20), (some (18, false)), (.load false 1), [.tm 19]⟩,
  ⟨(some 21), (some (18, false)), .len, [.tm 20]⟩,
  ⟨(some 22), (some (18, false)), (.cmp .gtr), [.tm 21, .cn (.int .i64 20)]⟩,
  ⟨(some 23), none, .or, [.tm 18, .tm 22]⟩,
  ⟨(some 4), none, .mov, [.tm 23]⟩])
 .ret)) }
theorem v20_is : vfunc Try.prog Try.f20 = some v20 := by kernel_rfl
def v32 : VF := { ntmps := 14, res := [.cell 8 true 4], body :=
 (.seq (.region [⟨(some 8), none, (.alloc [(.int .i64 0), (.int .i64 0), (.int .i64 0), (.int .i64 0)]), []⟩])
 (.seq (.region [⟨(some 9), none, .mov, [.tm 0]⟩,
  ⟨(some 10), none, .mov, [.tm 1]⟩,
  ⟨(some 11), none, .mov, [.tm 2]⟩,
  ⟨(some 12), none, .mov, [.tm 3]⟩,
  ⟨(some 13), none, (.build [(.int .i64 0), (.int .i64 0), (.int .i64 0), (.int .i64 0)] [(0, 1), (1, 1), (2, 1), (3, 1)]), [.tm 9, .tm 10, .tm 11, .tm 12]⟩,
  ⟨none, none, (.store 4), [.tm 8, .tm 13]⟩])
 .ret)) }
theorem v32_is : vfunc Try.prog Try.f32 = some v32 := by kernel_rfl
def v10 : VF := { ntmps := 95, res := [.tmp 0], body :=
 (.seq (.region [⟨(some 0), none, .mov, [.cn (.bool false)]⟩])
 (.seq (.region [⟨(some 13), none, (.build [(.int .i64 0), (.int .i64 0)] [(0, 1), (1, 1)]), [.cn (.int .i64 50), .cn (.int .i64 100)]⟩,
  ⟨(some 14), none, (.buildSlice 2 1 [(.int .i64 0), (.int .i64 0)] [(0, 2)]), [.tm 13]⟩,
  ⟨(some 15), none, (.build [(.int .i64 0), (.int .i64 0), (.int .i64 0), (.int .i64 0), (.int .i64 0), .nil] [(0, 1), (1, 1), (2, 1), (3, 1), (4, 1), (5, 1)]), [.cn (.int .i64 100), .cn (.int .i64 100), .cn (.int .i64 2), .cn (.int .i64 50), .cn (.int .i64 3), .tm 14]⟩,
  ⟨(some 1), none, (.alloc [(.int .i64 0), (.int .i64 0), (.int .i64 0), (.int .i64 0), (.int .i64 0), .nil]), []⟩,
  ⟨none, none, (.store 6), [.tm 1, .tm 15]⟩])
 (.seq (.region [⟨(some 16), none, (.call 32), [.cn (.int .i64 50), .cn (.int .i64 50), .cn (.int .i64 5), .cn (.int .i64 10)]⟩,
  ⟨(some 17), none, (.call 32), [.cn (.int .i64 57), .cn (.int .i64 70), .cn (.int .i64 5), .cn (.int .i64 20)]⟩,
  ⟨(some 18), none, (.buildSlice 4 2 [(.int .i64 0), (.int .i64 0), (.int .i64 0), (.int .i64 0)] [(0, 4), (4, 4)]), [.tm 16, .tm 17]⟩,
  ⟨(some 2), none, .mov, [.tm 18]⟩])
 (.seq (.region [⟨(some 20), none, (.load true 6), [.tm 1]⟩,
  ⟨(some 21), none, .mov, [.tm 2]⟩,
  ⟨(some 22), none, (.call 17), [.tm 20, .tm 21, .cn (.int .i64 0)]⟩,
  ⟨(some 19), none, .mov, [.tm 22]⟩,
  ⟨(some 23), none, (.ext 0), [.tm 19]⟩,
  ⟨(some 24), none, (.ext 1), [.tm 19]⟩,
  ⟨(some 3), none, .mov, [.tm 23]⟩,
  ⟨(some 4), none, .mov, [.tm 24]⟩])
 (.seq (.region [⟨(some 25), none, .mov, [.tm 2]⟩,
  ⟨(some 26), none, (.idxAddr 4), [.tm 25, .cn (.int .i64 1)]⟩,
  ⟨(some 27), none, (.fieldAddr 0), [.tm 26]⟩,
  ⟨none, none, (.store 1), [.tm 27, .cn (.int .i64 58)]⟩])
 (.seq (.region [⟨(some 29), none, (.load true 6), [.tm 1]⟩,
  ⟨(some 30), none, .mov, [.tm 2]⟩,
  ⟨(some 31), none, (.call 17), [.tm 29, .tm 30, .cn (.int .i64 0)]⟩,
  ⟨(some 28), none, .mov, [.tm 31]⟩,
  ⟨(some 32), none, (.ext 0), [.tm 28]⟩,
  ⟨(some 33), none, (.ext 1), [.tm 28]⟩,
  ⟨(some 5), none, .mov, [.tm 32]⟩,
  ⟨(some 6), none, .mov, [.tm 33]⟩])
 (.seq (.region [⟨(some 7), none, .mov, [.cn .nil]⟩])
 (.seq (.seq (.region [⟨(some 8), none, .mov, [.cn (.int .i64 0)]⟩])
 (.block 0 (.loop (.seq (.seq (.region [⟨(some 34), none, .mov, [.tm 8]⟩,
  ⟨(some 35), none, (.cmp .lss), [.tm 34, .cn (.int .i64 6)]⟩])
 (.cond (.tm 35) .skip
  (.exit 0)))
 (.seq (.block 1 (.region [⟨(some 38), none, .mov, [.tm 7]⟩,
  ⟨(some 39), none, (.buildSlice 1 6 [(.int .i64 0)] [(0, 1), (1, 1), (2, 1), (3, 1), (4, 1), (5, 1)]), [.cn (.int .i64 20), .cn (.int .i64 20), .cn (.int .i64 10), .cn (.int .i64 10), .cn (.int .i64 10), .cn (.int .i64 5)]⟩,
  ⟨(some 40), none, .mov, [.tm 8]⟩,
  ⟨(some 41), none, (.idxAddr 1), [.tm 39, .tm 40]⟩,
  ⟨(some 42), none, (.load false 1), [.tm 41]⟩,
  ⟨(some 43), none, (.build [(.int .i64 0), (.int .i64 0)] [(0, 1), (1, 1)]), [.tm 42, .cn (.int .i64 1)]⟩,
  ⟨(some 44), none, (.buildSlice 2 1 [(.int .i64 0), (.int .i64 0)] [(0, 2)]), [.tm 43]⟩,
  ⟨(some 45), none, (.append 2 16 [(.int .i64 0), (.int .i64 0)]), [.tm 38, .tm 44]⟩,
  ⟨(some 7), none, .mov, [.tm 45]⟩]))
 (.region [⟨(some 36), none, .mov, [.tm 8]⟩,
  ⟨(some 37), none, (.ari .add), [.tm 36, .cn (.int .i64 1)]⟩,
  ⟨(some 8), none, .mov, [.tm 37]⟩]))))))
 (.seq (.region [⟨(some 46), none, (.fieldAddr 1), [.tm 1]⟩,
  ⟨none, none, (.store 1), [.tm 46, .cn (.int .i64 70)]⟩])
 (.seq (.region [⟨(some 48), none, (.load true 6), [.tm 1]⟩,
  ⟨(some 49), none, .mov, [.tm 7]⟩,
  ⟨(some 50), none, (.call 11), [.tm 48, .tm 49]⟩,
  ⟨(some 47), none, .mov, [.tm 50]⟩,
  ⟨(some 51), none, (.ext 0), [.tm 47]⟩,
  ⟨(some 52), none, (.ext 1), [.tm 47]⟩,
  ⟨(some 9), none, .mov, [.tm 51]⟩,
  ⟨(some 10), none, .mov, [.tm 52]⟩])
 (.seq (.region [⟨(some 54), none, (.call 14), [.cn (.int .i64 5), .cn (.int .i64 2)]⟩,
  ⟨(some 53), none, .mov, [.tm 54]⟩,
  ⟨(some 55), none, (.ext 0), [.tm 53]⟩,
  ⟨(some 56), none, (.ext 1), [.tm 53]⟩,
  ⟨(some 11), none, .mov, [.tm 55]⟩,
  ⟨(some 12), none, .mov, [.tm 56]⟩])
 (.seq (.seq (.region [⟨(some 57), none, .mov, [.tm 4]⟩,
  ⟨(some 58), none, (.cmp .neq), [.tm 57, .cn (.int .i64 0)]⟩,
  ⟨(some 59), none, .mov, [.tm 58]⟩,
  ⟨(some 60), (some (59, false)), .mov, [.tm 6]⟩,
  ⟨(some 61), (some (59, false)), (.cmp .neq), [.tm 60, .cn (.int .i64 0)]⟩,
  ⟨(some 62), none, .or, [.tm 59, .tm 61]⟩,
  ⟨(some 63), none, .mov, [.tm 62]⟩,
  ⟨(some 64), (some (63, false)), .mov, [.tm 10]⟩,
  ⟨(some 65), (some (63, false)), (.cmp .neq), [.tm 64, .cn (.int .i64 0)]⟩,
  ⟨(some 66), none, .or, [.tm 63, .tm 65]⟩,
  ⟨(some 67), none, .mov, [.tm 66]⟩,
  ⟨(some 68), (some (67, false)), .mov, [.tm 12]⟩,
  ⟨(some 69), (some (67, false)), (.cmp .neq), [.tm 68, .cn (.int .i64 0)]⟩,
  ⟨(some 70), none, .or, [.tm 67, .tm 69]⟩])
 (.cond (.tm 70) (.seq (.region [⟨(some 0), none, .mov, [.cn (.bool false)]⟩])
 .ret)
  .skip))
 (.seq (.region [⟨(some 71), none, .mov, [.tm 3]⟩,
  ⟨(some 72), none, .len, [.tm 71]⟩,
  ⟨(some 73), none, (.cmp .eql), [.tm 72, .cn (.int .i64 0)]⟩,
  ⟨(some 74), none, .mov, [.tm 73]⟩,
  ⟨(some 75), (some (74, true)), .mov, [.tm 5]⟩,
  ⟨(some 76), (some (74, true)), (.buildSlice 1 1 [(.int .i64 0)] [(0, 1)]), [.cn (.int .i64 0)]⟩,
  ⟨(some 77), (some (74, true)), (.call 16), [.tm 75, .tm 76]⟩,
  ⟨(some 78), none, .and, [.tm 74, .tm 77]⟩,
  ⟨(some 79), none, .mov, [.tm 78]⟩,
  ⟨(some 80), (some (79, true)), .mov, [.tm 9]⟩,
  ⟨(some 81), (some (79, true)), (.call 32), [.cn (.int .i64 20), .cn (.int .i64 20), .cn (.int .i64 20), .cn (.int .i64 1)]⟩,
  ⟨(some 82), (some (79, true)), (.call 32), [.cn (.int .i64 62), .cn (.int .i64 20), .cn (.int .i64 20), .cn (.int .i64 1)]⟩,
  ⟨(some 83), (some (79, true)), (.call 32), [.cn (.int .i64 10), .cn (.int .i64 52), .cn (.int .i64 10), .cn (.int .i64 1)]⟩,
  ⟨(some 84), (some (79, true)), (.call 32), [.cn (.int .i64 32), .cn (.int .i64 52), .cn (.int .i64 10), .cn (.int .i64 1)]⟩,
  ⟨(some 85), (some (79, true)), (.call 32), [.cn (.int .i64 54), .cn (.int .i64 52), .cn (.int .i64 10), .cn (.int .i64 1)]⟩,
  ⟨(some 86), (some (79, true)), (.call 32), [.cn (.int .i64 71), .cn (.int .i64 52), .cn (.int .i64 5), .cn (.int .i64 1)]⟩,
  ⟨(some 87), (some (79, true)), (.buildSlice 4 6 [(.int .i64 0), (.int .i64 0), (.int .i64 0), (.int .i64 0)] [(0, 4), (4, 4), (8, 4), (12, 4), (16, 4), (20, 4)]), [.tm 81, .tm 82, .tm 83, .tm 84, .tm 85, .tm 86]⟩,
  ⟨(some 88), (some (79, true)), (.call 13), [.tm 80, .tm 87]⟩,
  ⟨(some 89), none, .and, [.tm 79, .tm 88]⟩,
  ⟨(some 90), none, .mov, [.tm 89]⟩,
  ⟨(some 91), (some (90, true)), .mov, [.tm 11]⟩,
  ⟨(some 92), (some (90, true)), (.buildSlice 1 5 [(.int .i64 0)] [(0, 1), (1, 1), (2, 1), (3, 1), (4, 1)]), [.cn (.int .i64 0), .cn (.int .i64 2), .cn (.int .i64 4), .cn (.int .i64 3), .cn (.int .i64 1)]⟩,
  ⟨(some 93), (some (90, true)), (.call 16), [.tm 91, .tm 92]⟩,
  ⟨(some 94), none, .and, [.tm 90, .tm 93]⟩,
  ⟨(some 0), none, .mov, [.tm 94]⟩])
 .ret))))))))))))) }
theorem v10_is : vfunc Try.prog Try.f10 = some v10 := by kernel_rfl


def samC {α : Type} [Inhabited α] [DecidableEq α] (size : Nat) (e : α → List SV) : Ctr := { alias := false, of := fun l => match l with
  | [.vs _ _ n sz get, .vs _ _ m sz' get'] => .ex (List α) fun a => .ex (List α) fun b => .pre (lsP size e n sz get a ∧ lsP size e m sz' get' b ∧ a.length ≤ 1000000000000) (.fin (.bool (decide (a = b))) [])
  | _ => noC }
def samSC : Ctr := samC 4 encS
def samIC : Ctr := samC 1 encI
def sdC : Ctr := { alias := false, of := fun l => match l with
  | [.int .i64 x, .int .i64 y, .int .i64 r, .int .i64 h] => .fin (.agg [.int .i64 x, .int .i64 y, .int .i64 r, .int .i64 h]) []
  | _ => noC }
def farF (b : Brd) (n : Nat) : Bool := (decide (40 < n) && decide (n ≤ 200)) || decide (210 < n) || decide (20 < b.wk.length)
def farC : Ctr := { alias := false, of := fun l => match l with
  | [.agg [.int .i64 w, .int .i64 d, .int .i64 c, .int .i64 a, .int .i64 s, .vs _ _ n sz get], .vs _ _ n' sz' get'] => .ex Brd fun b => .pre (brdP b w d c a s n sz get) (.fin (.bool (farF b n')) [])
  | _ => noC }
def L0 : Env := { ct := fun _ => none, fn := fun _ => none, meth := fun _ _ => none }
theorem L0_ok : EnvOk Try.prog L0 := by
  refine ⟨fun f c h => ?_, fun f vf h => ?_, (fun _ _ _ h => by cases h), by kernel_rfl⟩
  · cases h
  · cases h

theorem sd_ok : sdC.ok Try.prog 32 := by
  refine contract Try.func32 v32_is L0_ok 100 sdC fun args k h => ⟨args, ?_⟩
  simp only [sdC] at h
  split at h
  · refine ⟨by simp [leL, le], ?_⟩
    dsimp only [v32, go_sem, Option.bind, Option.map, List.append_nil, Nat.beq, List.cons_append, List.nil_append, List.append_eq, List.map_cons, List.map_nil, ite_self, reduceIte]
    simp only [true_and, and_true, imp_self, implies_true, decide_eq_true_eq, decide_eq_false_iff_not, Nat.reduceAdd, Nat.reduceLeDiff, Bool.not_not, reduceCtorEq, false_imp_iff, Bool.not_eq_true', Bool.not_eq_false', Bool.false_eq_true, and_self, forall_const, ne_eq, not_false_eq_true, Nat.reduceEqDiff]
    exact ans_le (show k _ [] from h) (leX_le (.agg [.int _ _, .int _ _, .int _ _, .int _ _]) _ (leXL_self _) ⟨trivial, trivial, trivial, trivial, trivial⟩) (fun _ => by simp [freshS, freshL])
  · exact h.1.elim
theorem far_ok : farC.ok Try.prog 20 := by
  refine contract Try.func20 v20_is L0_ok 100 farC fun args k h => ?_
  simp only [farC] at h
  split at h
  · rename_i w d c a s t z n sz get t' z' n' sz' get'
    obtain ⟨b, hbp, h⟩ := h
    refine ⟨[.agg (encB t z b), .vs t' z' n' sz' get'], ⟨brd_le hbp, le_self (.vs t' z' n' sz' get') trivial, trivial⟩, ?_⟩
    dsimp only [v20, encB, encT, go_sem, Option.bind, Option.map, List.append_nil, Nat.beq, List.cons_append, List.nil_append, List.append_eq, List.map_cons, List.map_nil, ite_self, reduceIte]
    simp only [true_and, and_true, imp_self, implies_true, decide_eq_true_eq, decide_eq_false_iff_not, Nat.reduceAdd, Nat.reduceLeDiff, Bool.not_not, reduceCtorEq, false_imp_iff, Bool.not_eq_true', Bool.not_eq_false', Bool.false_eq_true, and_self, forall_const, ne_eq, not_false_eq_true, Nat.reduceEqDiff]
    have e : (decide (40 < (n' : Int)) && decide ((n' : Int) ≤ 200) || decide (210 < (n' : Int)) || decide (20 < (b.wk.length : Int))) = farF b n' := by
      unfold farF
      rw [Bool.eq_iff_iff]
      simp only [Bool.or_eq_true, Bool.and_eq_true, decide_eq_true_eq]
      omega
    rw [e]
    exact ans_bool h
  · exact h.1.elim
theorem list_ne {α : Type} [Inhabited α] {a b : List α} {i : Nat} (h : a.getD i default ≠ b.getD i default) : a ≠ b := fun e => h (by rw [e])
theorem samI_ok : samIC.ok Try.prog 16 := by
  refine contract Try.func16 v16_is L0_ok 200 samIC fun args k h => ?_
  simp only [samIC, samC] at h
  split at h
  · rename_i t z n sz get t' z' m sz' get'
    obtain ⟨a, b, ⟨⟨rfl, rfl, hg⟩, ⟨rfl, rfl, hg'⟩, hbig⟩, h⟩ := h
    refine ⟨[.vs t z a.length 1 (fun k => encI (a.getD k default)), .vs t' z' b.length 1 (fun k => encI (b.getD k default))], ⟨by simpa [le] using hg, by simpa [le] using hg', trivial⟩, ?_⟩
    have h : k (.bool (decide (a = b))) [] := h
    dsimp only [v16, encI, go_sem, Option.bind, Option.map, List.append_nil, Nat.beq, List.cons_append, List.nil_append, List.append_eq, List.map_cons, List.map_nil, ite_self, reduceIte]
    simp only [true_and, and_true, imp_self, implies_true, decide_eq_true_eq, decide_eq_false_iff_not, Nat.reduceAdd, Nat.reduceLeDiff, Bool.not_not, reduceCtorEq, false_imp_iff, Bool.not_eq_true', Bool.not_eq_false', Bool.false_eq_true, and_self, forall_const, ne_eq, not_false_eq_true, Nat.reduceEqDiff]
    refine ⟨fun hc => ?_, fun hc => ?_⟩
    · rw [decide_eq_false (show ¬ a = b from fun e => by rw [e] at hc; omega)] at h; exact ans_bool h
    · have hlen : a.length = b.length := by omega
      refine Loop.keep [0, 0, 3] Nat (fun i => [(5, .int .i64 i)]) (fun _ => []) [] (fun i => i ≤ a.length ∧ ∀ j, j < i → a.getD j default = b.getD j default) (fun i => a.length - i) ?_ ?_
      · refine ⟨0, ⟨Nat.zero_le _, fun j h => by omega⟩, ?_⟩
        dsimp only [go_sem, Option.bind, Option.map, List.append_nil, Nat.beq, List.cons_append, List.nil_append, List.append_eq, List.map_cons, List.map_nil, ite_self, reduceIte]
        simp only [leS_mk, leL_cons, leL_nil, le_junk, le_int, le_bool, le_nil, leLL_nil, leLL_cons, leH_cons, leH_nil, leH1_box, leH1_own, leH1_gone, le_vs, le_agg, le_tup, le_ptr, le_own, le_xp, le_fn, le_opt, le_val, le_elem, le_nil_own, le_nil_vs, leH_ghost, leL_chunk, leXL_id, bnd_int, bnd_bool, bnd_val, bnd_nil, bnd_junk, bnd_vs, bnd_xp, bnd_agg, bnd_tup, bnd_ptr, bnd_own, bnd_elem, bnd_fn, bnd_iface, bnd_opt, bndL_nil, bndL_cons, lenH_cons, lenH_nil, imp_self, implies_true, true_and, and_true]
        simp
      · rintro i ⟨hi, ha⟩
        dsimp only [encS, encI, Int.toNat_natCast, go_sem, Option.bind, Option.map, List.append_nil, Nat.beq, List.cons_append, List.nil_append, List.append_eq, List.map_cons, List.map_nil, ite_self, reduceIte]
        simp only [true_and, and_true, imp_self, implies_true, decide_eq_true_eq, decide_eq_false_iff_not, Nat.reduceAdd, Nat.reduceLeDiff, Bool.not_not, reduceCtorEq, false_imp_iff, Bool.not_eq_true', Bool.not_eq_false', Bool.false_eq_true, and_self, forall_const, ne_eq, not_false_eq_true, Nat.reduceEqDiff]
        refine ⟨fun hlt => ?_, fun hge => ?_⟩
        · refine ⟨⟨by omega, hlt⟩, ⟨by omega, by omega⟩, ?_⟩
          refine ⟨fun hne => ?_, fun heq => ?_⟩
          · rw [decide_eq_false (list_ne (a := a) (b := b) (i := i) fun e => hne (by rw [e]))] at h; exact ans_bool h
          · refine ⟨i + 1, ⟨by omega, fun j hj => ?_⟩, by omega, ?_⟩
            · rcases Nat.lt_or_ge j i with h' | h'
              · exact ha j h'
              · obtain rfl : j = i := by omega
                omega
            · simp only [w_succ (i := i) (n := a.length) (by omega) (by omega), leS_mk, leL_cons, leL_nil, le_junk, le_int, le_bool, le_nil, leLL_nil, leLL_cons, leH_cons, leH_nil, leH1_box, leH1_own, leH1_gone, le_vs, le_agg, le_tup, le_ptr, le_own, le_xp, le_fn, le_opt, le_val, le_elem, le_nil_own, le_nil_vs, leH_ghost, leL_chunk, leXL_id, bnd_int, bnd_bool, bnd_val, bnd_nil, bnd_junk, bnd_vs, bnd_xp, bnd_agg, bnd_tup, bnd_ptr, bnd_own, bnd_elem, bnd_fn, bnd_iface, bnd_opt, bndL_nil, bndL_cons, lenH_cons, lenH_nil, imp_self, implies_true, true_and, and_true] <;> simp
        · have e : a = b := list_ext hlen fun i h => ha i (by omega)
          rw [decide_eq_true e] at h; exact ans_bool h
  · exact h.1.elim
theorem samS_ok : samSC.ok Try.prog 13 := by
  refine contract Try.func13 v13_is L0_ok 200 samSC fun args k h => ?_
  simp only [samSC, samC] at h
  split at h
  · rename_i t z n sz get t' z' m sz' get'
    obtain ⟨a, b, ⟨⟨rfl, rfl, hg⟩, ⟨rfl, rfl, hg'⟩, hbig⟩, h⟩ := h
    refine ⟨[.vs t z a.length 4 (fun k => encS (a.getD k default)), .vs t' z' b.length 4 (fun k => encS (b.getD k default))], ⟨by simpa [le] using hg, by simpa [le] using hg', trivial⟩, ?_⟩
    have h : k (.bool (decide (a = b))) [] := h
    dsimp only [v13, encS, go_sem, Option.bind, Option.map, List.append_nil, Nat.beq, List.cons_append, List.nil_append, List.append_eq, List.map_cons, List.map_nil, ite_self, reduceIte]
    simp only [true_and, and_true, imp_self, implies_true, decide_eq_true_eq, decide_eq_false_iff_not, Nat.reduceAdd, Nat.reduceLeDiff, Bool.not_not, reduceCtorEq, false_imp_iff, Bool.not_eq_true', Bool.not_eq_false', Bool.false_eq_true, and_self, forall_const, ne_eq, not_false_eq_true, Nat.reduceEqDiff]
    refine ⟨fun hc => ?_, fun hc => ?_⟩
    · rw [decide_eq_false (show ¬ a = b from fun e => by rw [e] at hc; omega)] at h; exact ans_bool h
    · have hlen : a.length = b.length := by omega
      refine Loop.keep [0, 0, 3] Nat (fun i => [(5, .int .i64 i)]) (fun _ => []) [] (fun i => i ≤ a.length ∧ ∀ j, j < i → a.getD j default = b.getD j default) (fun i => a.length - i) ?_ ?_
      · refine ⟨0, ⟨Nat.zero_le _, fun j h => by omega⟩, ?_⟩
        dsimp only [go_sem, Option.bind, Option.map, List.append_nil, Nat.beq, List.cons_append, List.nil_append, List.append_eq, List.map_cons, List.map_nil, ite_self, reduceIte]
        simp only [leS_mk, leL_cons, leL_nil, le_junk, le_int, le_bool, le_nil, leLL_nil, leLL_cons, leH_cons, leH_nil, leH1_box, leH1_own, leH1_gone, le_vs, le_agg, le_tup, le_ptr, le_own, le_xp, le_fn, le_opt, le_val, le_elem, le_nil_own, le_nil_vs, leH_ghost, leL_chunk, leXL_id, bnd_int, bnd_bool, bnd_val, bnd_nil, bnd_junk, bnd_vs, bnd_xp, bnd_agg, bnd_tup, bnd_ptr, bnd_own, bnd_elem, bnd_fn, bnd_iface, bnd_opt, bndL_nil, bndL_cons, lenH_cons, lenH_nil, imp_self, implies_true, true_and, and_true]
        simp
      · rintro i ⟨hi, ha⟩
        dsimp only [encS, encI, Int.toNat_natCast, go_sem, Option.bind, Option.map, List.append_nil, Nat.beq, List.cons_append, List.nil_append, List.append_eq, List.map_cons, List.map_nil, ite_self, reduceIte]
        simp only [true_and, and_true, imp_self, implies_true, decide_eq_true_eq, decide_eq_false_iff_not, Nat.reduceAdd, Nat.reduceLeDiff, Bool.not_not, reduceCtorEq, false_imp_iff, Bool.not_eq_true', Bool.not_eq_false', Bool.false_eq_true, and_self, forall_const, ne_eq, not_false_eq_true, Nat.reduceEqDiff]
        refine ⟨fun hlt => ?_, fun hge => ?_⟩
        · refine ⟨⟨by omega, hlt⟩, ⟨by omega, by omega⟩, ?_⟩
          refine ⟨fun hne => ?_, fun heq => ?_⟩
          · rw [decide_eq_false (list_ne (a := a) (b := b) (i := i) fun e => by rw [e] at hne; simp at hne)] at h; exact ans_bool h
          · have he : a.getD i default = b.getD i default := by
              simp only [Bool.and_true, Bool.and_eq_true, decide_eq_true_eq] at heq
              generalize a.getD i default = p at *
              generalize b.getD i default = q at *
              obtain ⟨p1, p2, p3, p4⟩ := p
              obtain ⟨q1, q2, q3, q4⟩ := q
              obtain ⟨rfl, rfl, rfl, rfl⟩ := heq
              rfl
            refine ⟨i + 1, ⟨by omega, fun j hj => ?_⟩, by omega, ?_⟩
            · rcases Nat.lt_or_ge j i with h' | h'
              · exact ha j h'
              · obtain rfl : j = i := by omega
                exact he
            · simp only [w_succ (i := i) (n := a.length) (by omega) (by omega), leS_mk, leL_cons, leL_nil, le_junk, le_int, le_bool, le_nil, leLL_nil, leLL_cons, leH_cons, leH_nil, leH1_box, leH1_own, leH1_gone, le_vs, le_agg, le_tup, le_ptr, le_own, le_xp, le_fn, le_opt, le_val, le_elem, le_nil_own, le_nil_vs, leH_ghost, leL_chunk, leXL_id, bnd_int, bnd_bool, bnd_val, bnd_nil, bnd_junk, bnd_vs, bnd_xp, bnd_agg, bnd_tup, bnd_ptr, bnd_own, bnd_elem, bnd_fn, bnd_iface, bnd_opt, bndL_nil, bndL_cons, lenH_cons, lenH_nil, imp_self, implies_true, true_and, and_true] <;> simp
        · have e : a = b := list_ext hlen fun i h => ha i (by omega)
          rw [decide_eq_true e] at h; exact ans_bool h
  · exact h.1.elim
end Go.Proofs.Ytojaibhjfeojjaa

