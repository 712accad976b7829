/- Chests, walked: the reference's functions. -/
import Derived.Test.YtngccjllkgpjmaaGreatMgX3f
import Derived.Test.YtngccjllkgpjmaaGreatRows
/- Chests, walked: the reference's functions. -/
set_option linter.all false
namespace Go.Proofs.YtngccjllkgpjmaaGreat
open Go Go.Vx
set_option maxRecDepth 100000
set_option maxHeartbeats 4000000

def v38 : VF := { ntmps := 15, res := [.tmp 6], body :=
 (.seq (.region [⟨(some 6), none, .mov, [.cn (.bool false)]⟩])
 (.seq (.region [⟨(some 7), none, .mov, [.tm 0]⟩,
  ⟨(some 8), none, .mov, [.tm 1]⟩,
  ⟨(some 9), none, (.cmp .geq), [.tm 7, .tm 8]⟩,
  ⟨(some 10), none, .mov, [.tm 9]⟩,
  ⟨(some 11), (some (10, true)), .mov, [.tm 0]⟩,
  ⟨(some 12), (some (10, true)), .mov, [.tm 2]⟩,
  ⟨(some 13), (some (10, true)), (.cmp .leq), [.tm 11, .tm 12]⟩,
  ⟨(some 14), none, .and, [.tm 10, .tm 13]⟩,
  ⟨(some 6), none, .mov, [.tm 14]⟩])
 .ret)) }
theorem v38_is : vfunc Tryz.prog Tryz.f38 = some v38 := by kernel_rfl
def v40 : VF := { ntmps := 6, res := [.cell 2 true 2], body :=
 (.seq (.region [⟨(some 2), none, (.alloc [(.int .i64 0), (.int .i64 0)]), []⟩])
 (.seq (.region [⟨(some 3), none, .mov, [.tm 0]⟩,
  ⟨(some 4), none, .mov, [.tm 0]⟩,
  ⟨(some 5), none, (.build [(.int .i64 0), (.int .i64 0)] [(0, 1), (1, 1)]), [.tm 3, .tm 4]⟩,
  ⟨none, none, (.store 2), [.tm 2, .tm 5]⟩])
 .ret)) }
theorem v40_is : vfunc Tryz.prog Tryz.f40 = some v40 := by kernel_rfl
def v27 : VF := { ntmps := 21, res := [.tmp 2], body :=
 (.seq (.region [⟨(some 1), none, .box, [.tm 0]⟩,
  ⟨(some 2), none, .mov, [.cn (.bool false)]⟩])
 (.seq (.region [⟨(some 3), none, (.fieldAddr 0), [.tm 1]⟩,
  ⟨(some 4), none, (.load false 1), [.tm 3]⟩,
  ⟨(some 5), none, (.call 38), [.tm 4, .cn (.int .i64 1000), .cn (.int .i64 100000)]⟩,
  ⟨(some 6), none, .mov, [.tm 5]⟩,
  ⟨(some 7), (some (6, true)), (.fieldAddr 1), [.tm 1]⟩,
  ⟨(some 8), (some (6, true)), (.load false 1), [.tm 7]⟩,
  ⟨(some 9), (some (6, true)), (.call 38), [.tm 8, .cn (.int .i64 10000), .cn (.int .i64 1000000)]⟩,
  ⟨(some 10), none, .and, [.tm 6, .tm 9]⟩,
  ⟨(some 11), none, .mov, [.tm 10]⟩,
  ⟨(some 12), (some (11, true)), (.fieldAddr 2), [.tm 1]⟩,
  ⟨(some 13), (some (11, true)), (.load false 1), [.tm 12]⟩,
  ⟨(some 14), (some (11, true)), (.call 38), [.tm 13, .cn (.int .i64 500), .cn (.int .i64 30000)]⟩,
  ⟨(some 15), none, .and, [.tm 11, .tm 14]⟩,
  ⟨(some 16), none, .mov, [.tm 15]⟩,
  ⟨(some 17), (some (16, true)), (.fieldAddr 3), [.tm 1]⟩,
  ⟨(some 18), (some (16, true)), (.load false 1), [.tm 17]⟩,
  ⟨(some 19), (some (16, true)), (.call 38), [.tm 18, .cn (.int .i64 0), .cn (.int .i64 10000000)]⟩,
  ⟨(some 20), none, .and, [.tm 16, .tm 19]⟩,
  ⟨(some 2), none, .mov, [.tm 20]⟩])
 .ret)) }
theorem v27_is : vfunc Tryz.prog Tryz.f27 = some v27 := by kernel_rfl
def v37 : VF := { ntmps := 21, res := [.tmp 2], body :=
 (.seq (.region [⟨(some 1), none, .box, [.tm 0]⟩,
  ⟨(some 2), none, .mov, [.cn (.bool false)]⟩])
 (.seq (.region [⟨(some 3), none, (.fieldAddr 0), [.tm 1]⟩,
  ⟨(some 4), none, (.load false 1), [.tm 3]⟩,
  ⟨(some 5), none, (.cmp .geq), [.tm 4, .cn (.int .i64 100)]⟩,
  ⟨(some 6), none, .mov, [.tm 5]⟩,
  ⟨(some 7), (some (6, true)), (.fieldAddr 0), [.tm 1]⟩,
  ⟨(some 8), (some (6, true)), (.load false 1), [.tm 7]⟩,
  ⟨(some 9), (some (6, true)), (.cmp .leq), [.tm 8, .cn (.int .i64 100000)]⟩,
  ⟨(some 10), none, .and, [.tm 6, .tm 9]⟩,
  ⟨(some 11), none, .mov, [.tm 10]⟩,
  ⟨(some 12), (some (11, true)), (.fieldAddr 1), [.tm 1]⟩,
  ⟨(some 13), (some (11, true)), (.load false 1), [.tm 12]⟩,
  ⟨(some 14), (some (11, true)), (.cmp .geq), [.tm 13, .cn (.int .i64 100)]⟩,
  ⟨(some 15), none, .and, [.tm 11, .tm 14]⟩,
  ⟨(some 16), none, .mov, [.tm 15]⟩,
  ⟨(some 17), (some (16, true)), (.fieldAddr 1), [.tm 1]⟩,
  ⟨(some 18), (some (16, true)), (.load false 1), [.tm 17]⟩,
  ⟨(some 19), (some (16, true)), (.cmp .leq), [.tm 18, .cn (.int .i64 1000)]⟩,
  ⟨(some 20), none, .and, [.tm 16, .tm 19]⟩,
  ⟨(some 2), none, .mov, [.tm 20]⟩])
 .ret)) }
theorem v37_is : vfunc Tryz.prog Tryz.f37 = some v37 := by kernel_rfl
def v23 : VF := { ntmps := 18, res := [.tmp 2], body :=
 (.seq (.region [⟨(some 1), none, .box, [.tm 0]⟩,
  ⟨(some 2), none, .mov, [.cn (.bool false)]⟩])
 (.seq (.seq (.region [⟨(some 3), none, .mov, [.cn (.int .i64 0)]⟩])
 (.block 0 (.loop (.seq (.seq (.region [⟨(some 4), none, .mov, [.tm 3]⟩,
  ⟨(some 5), none, (.fieldAddr 0), [.tm 1]⟩,
  ⟨(some 6), none, (.load false 1), [.tm 5]⟩,
  ⟨(some 7), none, .len, [.tm 6]⟩,
  ⟨(some 8), none, (.cmp .lss), [.tm 4, .tm 7]⟩])
 (.cond (.tm 8) .skip
  (.exit 0)))
 (.seq (.block 1 (.seq (.region [⟨(some 11), none, (.fieldAddr 0), [.tm 1]⟩,
  ⟨(some 12), none, (.load false 1), [.tm 11]⟩,
  ⟨(some 13), none, .mov, [.tm 3]⟩,
  ⟨(some 14), none, (.idxAddr 2), [.tm 12, .tm 13]⟩,
  ⟨(some 15), none, (.load true 2), [.tm 14]⟩,
  ⟨(some 16), none, (.call 37), [.tm 15]⟩,
  ⟨(some 17), none, .not, [.tm 16]⟩])
 (.cond (.tm 17) (.seq (.region [⟨(some 2), none, .mov, [.cn (.bool false)]⟩])
 .ret)
  .skip)))
 (.region [⟨(some 9), none, .mov, [.tm 3]⟩,
  ⟨(some 10), none, (.ari .add), [.tm 9, .cn (.int .i64 1)]⟩,
  ⟨(some 3), none, .mov, [.tm 10]⟩]))))))
 (.seq (.region [⟨(some 2), none, .mov, [.cn (.bool true)]⟩])
 .ret))) }
theorem v23_is : vfunc Tryz.prog Tryz.f23 = some v23 := by kernel_rfl
def v28 : VF := { ntmps := 17, res := [.tmp 2], body :=
 (.seq (.region [⟨(some 1), none, .box, [.tm 0]⟩,
  ⟨(some 2), none, .mov, [.cn (.int .i64 0)]⟩])
 (.seq (.region [⟨(some 3), none, (.fieldAddr 0), [.tm 1]⟩,
  ⟨(some 4), none, (.load false 1), [.tm 3]⟩,
  ⟨(some 5), none, (.fieldAddr 1), [.tm 1]⟩,
  ⟨(some 6), none, (.load false 1), [.tm 5]⟩,
  ⟨(some 7), none, (.ari .mul), [.tm 4, .tm 6]⟩,
  ⟨(some 8), none, (.fieldAddr 2), [.tm 1]⟩,
  ⟨(some 9), none, (.load false 1), [.tm 8]⟩,
  ⟨(some 10), none, (.fieldAddr 0), [.tm 1]⟩,
  ⟨(some 11), none, (.load false 1), [.tm 10]⟩,
  ⟨(some 12), none, (.fieldAddr 1), [.tm 1]⟩,
  ⟨(some 13), none, (.load false 1), [.tm 12]⟩,
  ⟨(some 14), none, (.ari .add), [.tm 11, .tm 13]⟩,
  ⟨(some 15), none, (.ari .mul), [.tm 9, .tm 14]⟩,
  ⟨(some 16), none, .min, [.tm 7, .tm 15]⟩,
  ⟨(some 2), none, .mov, [.tm 16]⟩])
 .ret)) }
theorem v28_is : vfunc Tryz.prog Tryz.f28 = some v28 := by kernel_rfl
def v32 : VF := { ntmps := 27, res := [.cell 4 true 2], body :=
 (.seq (.region [⟨(some 2), none, .box, [.tm 0]⟩,
  ⟨(some 4), none, (.alloc [(.int .i64 0), (.int .i64 0)]), []⟩])
 (.seq (.region [⟨(some 8), none, (.fieldAddr 0), [.tm 2]⟩,
  ⟨(some 9), none, (.load false 1), [.tm 8]⟩,
  ⟨(some 10), none, (.fieldAddr 1), [.tm 2]⟩,
  ⟨(some 11), none, (.load false 1), [.tm 10]⟩,
  ⟨(some 12), none, (.ari .mul), [.tm 9, .tm 11]⟩,
  ⟨(some 13), none, (.call 40), [.tm 12]⟩,
  ⟨(some 14), none, .mov, [.tm 1]⟩,
  ⟨(some 15), none, (.call 39), [.tm 13, .tm 14, .cn (.int .i64 1000000)]⟩,
  ⟨(some 7), none, .mov, [.tm 15]⟩,
  ⟨(some 16), none, (.ext 0), [.tm 7]⟩,
  ⟨(some 17), none, (.ext 1), [.tm 7]⟩,
  ⟨(some 5), none, (.alloc [(.int .i64 0), (.int .i64 0)]), []⟩,
  ⟨none, none, (.store 2), [.tm 5, .tm 16]⟩,
  ⟨(some 6), none, .mov, [.tm 17]⟩])
 (.seq (.draw [] [⟨⟨(some 19), none, (.load true 2), [.tm 5]⟩, []⟩,
  ⟨⟨(some 20), none, (.fieldAddr 3), [.tm 2]⟩, []⟩,
  ⟨⟨(some 21), none, (.load false 1), [.tm 20]⟩, []⟩,
  ⟨⟨(some 22), none, (.call 40), [.tm 21]⟩, []⟩,
  ⟨⟨(some 23), none, (.call 55), [.tm 19, .tm 22]⟩, []⟩,
  ⟨⟨(some 18), none, .mov, [.tm 23]⟩, []⟩,
  ⟨⟨(some 24), none, (.ext 0), [.tm 18]⟩, []⟩,
  ⟨⟨(some 25), none, (.ext 1), [.tm 18]⟩, []⟩,
  ⟨⟨none, none, (.store 2), [.tm 5, .tm 24]⟩, []⟩])
 (.seq (.region [⟨(some 26), none, (.load true 2), [.tm 5]⟩,
  ⟨none, none, (.store 2), [.tm 4, .tm 26]⟩])
 .ret)))) }
theorem v32_is : vfunc Tryz.prog Tryz.f32 = some v32 := by kernel_rfl
def v24 : VF := { ntmps := 33, res := [.cell 2 true 2], body :=
 (.seq (.region [⟨(some 1), none, .box, [.tm 0]⟩,
  ⟨(some 2), none, (.alloc [(.int .i64 0), (.int .i64 0)]), []⟩])
 (.seq (.region [⟨(some 7), none, (.build [(.int .i64 0), (.int .i64 0)] []), []⟩,
  ⟨(some 3), none, (.alloc [(.int .i64 0), (.int .i64 0)]), []⟩,
  ⟨none, none, (.store 2), [.tm 3, .tm 7]⟩])
 (.seq (.seq (.region [⟨(some 4), none, .mov, [.cn (.int .i64 0)]⟩])
 (.block 0 (.loop (.seq (.seq (.region [⟨(some 8), none, .mov, [.tm 4]⟩,
  ⟨(some 9), none, (.fieldAddr 0), [.tm 1]⟩,
  ⟨(some 10), none, (.load false 1), [.tm 9]⟩,
  ⟨(some 11), none, .len, [.tm 10]⟩,
  ⟨(some 12), none, (.cmp .lss), [.tm 8, .tm 11]⟩])
 (.cond (.tm 12) .skip
  (.exit 0)))
 (.seq (.block 1 (.seq (.region [⟨(some 16), none, (.fieldAddr 0), [.tm 1]⟩,
  ⟨(some 17), none, (.load false 1), [.tm 16]⟩,
  ⟨(some 18), none, .mov, [.tm 4]⟩,
  ⟨(some 19), none, (.idxAddr 2), [.tm 17, .tm 18]⟩,
  ⟨(some 20), none, (.fieldAddr 0), [.tm 19]⟩,
  ⟨(some 21), none, (.load false 1), [.tm 20]⟩,
  ⟨(some 22), none, (.call 40), [.tm 21]⟩,
  ⟨(some 23), none, (.call 54), [.tm 22]⟩,
  ⟨(some 15), none, .mov, [.tm 23]⟩,
  ⟨(some 24), none, (.ext 0), [.tm 15]⟩,
  ⟨(some 25), none, (.ext 1), [.tm 15]⟩,
  ⟨(some 5), none, (.alloc [(.int .i64 0), (.int .i64 0)]), []⟩,
  ⟨none, none, (.store 2), [.tm 5, .tm 24]⟩,
  ⟨(some 6), none, .mov, [.tm 25]⟩])
 (.region [⟨(some 27), none, (.load true 2), [.tm 3]⟩,
  ⟨(some 28), none, (.load true 2), [.tm 5]⟩,
  ⟨(some 29), none, (.call 55), [.tm 27, .tm 28]⟩,
  ⟨(some 26), none, .mov, [.tm 29]⟩,
  ⟨(some 30), none, (.ext 0), [.tm 26]⟩,
  ⟨(some 31), none, (.ext 1), [.tm 26]⟩,
  ⟨none, none, (.store 2), [.tm 3, .tm 30]⟩])))
 (.region [⟨(some 13), none, .mov, [.tm 4]⟩,
  ⟨(some 14), none, (.ari .add), [.tm 13, .cn (.int .i64 1)]⟩,
  ⟨(some 4), none, .mov, [.tm 14]⟩]))))))
 (.seq (.region [⟨(some 32), none, (.load true 2), [.tm 3]⟩,
  ⟨none, none, (.store 2), [.tm 2, .tm 32]⟩])
 .ret)))) }
theorem v24_is : vfunc Tryz.prog Tryz.f24 = some v24 := by kernel_rfl
def frmC : Ctr := { alias := false, of := fun l => match l with
  | [.int .i64 n, .int .i64 lo, .int .i64 hi] => .fin (.bool (!outN n lo hi)) []
  | _ => noC }
def rtoeC : Ctr := { alias := false, of := fun l => match l with
  | [.agg [.int .i64 x, .int .i64 y]] => .fin (.bool (!toeB (x, y))) []
  | _ => noC }
def rpalC : Ctr := { alias := false, of := fun l => match l with
  | [.agg [.int .i64 w, .int .i64 l, .int .i64 t, .int .i64 s]] => .fin (.bool (!palB ⟨w, l, t, s⟩)) []
  | _ => noC }
theorem nout {n lo hi : Int} : (!outN n lo hi) = (decide (lo ≤ n) && decide (n ≤ hi)) := by
  unfold outN
  rw [Bool.not_or, ← decide_not, ← decide_not]
  congr 1 <;> rw [decide_eq_decide] <;> omega
theorem frm_ok : frmC.ok Tryz.prog 38 := by
  refine contract Tryz.func38 v38_is E0_ok 100 frmC fun args k h => ⟨args, ?_⟩
  simp only [frmC] at h
  split at h
  · refine ⟨by simp [leL, le], ?_⟩
    dsimp only [v38, go_sem, Option.bind, Option.map, List.append_nil, Nat.beq, List.cons_append, List.nil_append, List.append_eq, List.map_cons, List.map_nil, ite_self, reduceIte]
    simp only [true_and, and_true, imp_self, implies_true, decide_eq_true_eq, decide_eq_false_iff_not, Nat.reduceAdd, Nat.reduceLeDiff, Bool.not_not, reduceCtorEq, false_imp_iff, Bool.not_eq_true', Bool.not_eq_false', Bool.false_eq_true, and_self, forall_const, ne_eq, not_false_eq_true, Nat.reduceEqDiff]
    have h : k _ [] := h
    rw [nout] at h
    exact ans_bool h
  · exact h.1.elim
def F1 : Env := { ct := fun n => match n with | 38 => some frmC | _ => none, fn := fun _ => none, meth := fun _ _ => none }
theorem F1_ct38 : F1.ct 38 = some frmC := rfl
theorem F1_ok : EnvOk Tryz.prog F1 := by
  refine ⟨fun f c h => ?_, fun f vf h => ?_, (fun _ _ _ h => by cases h), by kernel_rfl⟩
  · simp only [F1] at h
    split at h
    · cases h; exact ⟨frm_ok, Tryz.f38, Tryz.func38, by kernel_rfl, by kernel_rfl⟩
    · cases h
  · cases h

theorem rtoe_ok : rtoeC.ok Tryz.prog 37 := by
  refine contract Tryz.func37 v37_is F1_ok 100 rtoeC fun args k h => ⟨args, ?_⟩
  simp only [rtoeC] at h
  split at h
  · refine ⟨by simp [leL, le], ?_⟩
    dsimp only [v37, go_sem, Option.bind, Option.map, List.append_nil, Nat.beq, List.cons_append, List.nil_append, List.append_eq, List.map_cons, List.map_nil, ite_self, reduceIte]
    simp only [true_and, and_true, imp_self, implies_true, decide_eq_true_eq, decide_eq_false_iff_not, Nat.reduceAdd, Nat.reduceLeDiff, Bool.not_not, reduceCtorEq, false_imp_iff, Bool.not_eq_true', Bool.not_eq_false', Bool.false_eq_true, and_self, forall_const, ne_eq, not_false_eq_true, Nat.reduceEqDiff]
    have h : k _ [] := h
    rw [toeB, Bool.not_or, nout, nout, ← Bool.and_assoc] at h
    exact ans_bool h
  · exact h.1.elim
theorem rpal_ok : rpalC.ok Tryz.prog 27 := by
  refine contract Tryz.func27 v27_is F1_ok 100 rpalC fun args k h => ⟨args, ?_⟩
  simp only [rpalC] at h
  split at h
  · refine ⟨by simp [leL, le], ?_⟩
    dsimp only [v27, F1_ct38, frmC, go_sem, Option.bind, Option.map, List.append_nil, Nat.beq, List.cons_append, List.nil_append, List.append_eq, List.map_cons, List.map_nil, ite_self, reduceIte]
    simp only [true_and, and_true, imp_self, implies_true, decide_eq_true_eq, decide_eq_false_iff_not, Nat.reduceAdd, Nat.reduceLeDiff, Bool.not_not, reduceCtorEq, false_imp_iff, Bool.not_eq_true', Bool.not_eq_false', Bool.false_eq_true, and_self, forall_const, ne_eq, not_false_eq_true, Nat.reduceEqDiff]
    have h : k _ [] := h
    rw [palB, Bool.not_or, Bool.not_or, Bool.not_or] at h
    exact ans_bool h
  · exact h.1.elim
theorem rone_ok : oneC.ok Tryz.prog 40 := by
  refine contract Tryz.func40 v40_is F1_ok 100 oneC fun args k h => ⟨args, ?_⟩
  simp only [oneC] at h
  split at h
  · refine ⟨by simp [leL, le], ?_⟩
    dsimp only [v40, go_sem, Option.bind, Option.map, List.append_nil, Nat.beq, List.cons_append, List.nil_append, List.append_eq, List.map_cons, List.map_nil, ite_self, reduceIte]
    simp only [true_and, and_true, imp_self, implies_true, decide_eq_true_eq, decide_eq_false_iff_not, Nat.reduceAdd, Nat.reduceLeDiff, Bool.not_not, reduceCtorEq, false_imp_iff, Bool.not_eq_true', Bool.not_eq_false', Bool.false_eq_true, and_self, forall_const, ne_eq, not_false_eq_true, Nat.reduceEqDiff]
    exact ans_le (show k _ [] from h) (by simp [expo, view, viewL, leL, le]) (fun _ => by simp [freshS, freshL])
  · exact h.1.elim

def toesC : Ctr := { alias := false, of := fun l => match l with
  | [.agg [.vs _ _ n sz get]] => .ex (List Iv) fun l => .pre (lsP 2 enc2 n sz get l ∧ l.length ≤ 1000000000000) (.fin (.bool (!(l.any toeB))) [])
  | _ => noC }
def F2 : Env := { ct := fun n => match n with | 38 => some frmC | 37 => some rtoeC | 27 => some rpalC | 40 => some oneC | 39 => some sclC | 55 => some addC | 54 => some discC | _ => none, fn := fun _ => none, meth := fun _ _ => none }
theorem F2_ct37 : F2.ct 37 = some rtoeC := rfl
theorem F2_ct40 : F2.ct 40 = some oneC := rfl
theorem F2_ct39 : F2.ct 39 = some sclC := rfl
theorem F2_ct55 : F2.ct 55 = some addC := rfl
theorem F2_ct54 : F2.ct 54 = some discC := rfl
theorem F2_ok : EnvOk Tryz.prog F2 := by
  refine ⟨fun f c h => ?_, fun f vf h => ?_, (fun _ _ _ h => by cases h), by kernel_rfl⟩
  · simp only [F2] at h
    split at h
    · cases h; exact ⟨frm_ok, Tryz.f38, Tryz.func38, by kernel_rfl, by kernel_rfl⟩
    · cases h; exact ⟨rtoe_ok, Tryz.f37, Tryz.func37, by kernel_rfl, by kernel_rfl⟩
    · cases h; exact ⟨rpal_ok, Tryz.f27, Tryz.func27, by kernel_rfl, by kernel_rfl⟩
    · cases h; exact ⟨rone_ok, Tryz.f40, Tryz.func40, by kernel_rfl, by kernel_rfl⟩
    · cases h; exact ⟨rscl_ok, Tryz.f39, Tryz.func39, by kernel_rfl, by kernel_rfl⟩
    · cases h; exact ⟨radd_ok, Tryz.f55, Tryz.func55, by kernel_rfl, by kernel_rfl⟩
    · cases h; exact ⟨rdisc_ok, Tryz.f54, Tryz.func54, by kernel_rfl, by kernel_rfl⟩
    · cases h
  · cases h

theorem toes_ok : toesC.ok Tryz.prog 23 := by
  refine contract Tryz.func23 v23_is F2_ok 200 toesC fun args k h => ?_
  simp only [toesC] at h
  split at h
  · rename_i t z n sz get
    obtain ⟨l, ⟨⟨rfl, rfl, hg⟩, hl⟩, h⟩ := h
    refine ⟨[.agg [.vs t z l.length 2 (fun k => enc2 (l.getD k default))]], ⟨by simpa [le, leL] using hg, trivial⟩, ?_⟩
    have h : k (.bool (!(l.any toeB))) [] := h
    dsimp only [v23, enc2, go_sem, Option.bind, Option.map, List.append_nil, Nat.beq, List.cons_append, List.nil_append, List.append_eq, List.map_cons, List.map_nil, ite_self, reduceIte]
    simp only [true_and, and_true, imp_self, implies_true, decide_eq_true_eq, decide_eq_false_iff_not, Nat.reduceAdd, Nat.reduceLeDiff, Bool.not_not, reduceCtorEq, false_imp_iff, Bool.not_eq_true', Bool.not_eq_false', Bool.false_eq_true, and_self, forall_const, ne_eq, not_false_eq_true, Nat.reduceEqDiff]
    obtain ⟨F, hF⟩ : ∃ F, F = toeB := ⟨_, rfl⟩
    rw [← hF] at h
    refine Loop.keep [1, 0] Nat (fun i => [(3, .int .i64 i)]) (fun _ => []) [] (fun i => i ≤ l.length ∧ ∀ j, j < i → F (l.getD j default) = false) (fun i => l.length - i) ?_ ?_
    · refine ⟨0, ⟨Nat.zero_le _, fun j h => by omega⟩, ?_⟩
      dsimp only [go_sem, Option.bind, Option.map, List.append_nil, Nat.beq, List.cons_append, List.nil_append, List.append_eq, List.map_cons, List.map_nil, ite_self, reduceIte]
      simp only [leS_mk, leL_cons, leL_nil, le_junk, le_int, le_bool, le_nil, leLL_nil, leLL_cons, leH_cons, leH_nil, leH1_box, leH1_own, leH1_gone, le_vs, le_agg, le_tup, le_ptr, le_own, le_xp, le_fn, le_opt, le_val, le_elem, le_nil_own, le_nil_vs, leH_ghost, leL_chunk, leXL_id, bnd_int, bnd_bool, bnd_val, bnd_nil, bnd_junk, bnd_vs, bnd_xp, bnd_agg, bnd_tup, bnd_ptr, bnd_own, bnd_elem, bnd_fn, bnd_iface, bnd_opt, bndL_nil, bndL_cons, lenH_cons, lenH_nil, imp_self, implies_true, true_and, and_true]
      simp
    · rintro i ⟨hi, ha⟩
      dsimp only [F2_ct37, rtoeC, enc2, Int.toNat_natCast, go_sem, Option.bind, Option.map, List.append_nil, Nat.beq, List.cons_append, List.nil_append, List.append_eq, List.map_cons, List.map_nil, ite_self, reduceIte]
      simp only [true_and, and_true, imp_self, implies_true, decide_eq_true_eq, decide_eq_false_iff_not, Nat.reduceAdd, Nat.reduceLeDiff, Bool.not_not, reduceCtorEq, false_imp_iff, Bool.not_eq_true', Bool.not_eq_false', Bool.false_eq_true, and_self, forall_const, ne_eq, not_false_eq_true, Nat.reduceEqDiff]
      simp only [show toeB (((l.getD i default).1, (l.getD i default).2)) = F (l.getD i default) by rw [hF]]
      refine ⟨fun hlt => ⟨⟨by omega, hlt⟩, fun hb => ?_, fun hb => ?_⟩, fun hge => ?_⟩
      · have e : l.any F = true := List.any_eq_true.2 ⟨_, getD_mem (by omega : i < l.length), hb⟩
        exact ans_bool (by rw [e] at h; exact h)
      · refine ⟨i + 1, ⟨by omega, fun j hj => ?_⟩, by omega, ?_⟩
        · rcases Nat.lt_or_ge j i with h' | h'
          · exact ha j h'
          · obtain rfl : j = i := by omega
            exact hb
        · simp only [w_succ (i := i) (n := l.length) (by omega) (by omega), leS_mk, leL_cons, leL_nil, le_junk, le_int, le_bool, le_nil, leLL_nil, leLL_cons, leH_cons, leH_nil, leH1_box, leH1_own, leH1_gone, le_vs, le_agg, le_tup, le_ptr, le_own, le_xp, le_fn, le_opt, le_val, le_elem, le_nil_own, le_nil_vs, leH_ghost, leL_chunk, leXL_id, bnd_int, bnd_bool, bnd_val, bnd_nil, bnd_junk, bnd_vs, bnd_xp, bnd_agg, bnd_tup, bnd_ptr, bnd_own, bnd_elem, bnd_fn, bnd_iface, bnd_opt, bndL_nil, bndL_cons, lenH_cons, lenH_nil, imp_self, implies_true, true_and, and_true] <;> simp
      · have e : l.any F = false := List.any_eq_false.2 fun x hx => by
          obtain ⟨j, hj, rfl⟩ := mem_getD hx
          rw [ha j (by omega)]; simp
        exact ans_bool (by rw [e] at h; exact h)
  · exact h.1.elim
theorem ropen_ok : openC.ok Tryz.prog 28 := by
  refine contract Tryz.func28 v28_is F2_ok 100 openC fun args k h => ⟨args, ?_⟩
  simp only [openC] at h
  split at h
  · rename_i w l t s
    obtain ⟨hp, h⟩ := h
    refine ⟨by simp [leL, le], ?_⟩
    obtain ⟨h1, h2, h3, h4⟩ := pal_rng hp
    obtain ⟨_, _, h5, h6⟩ := open_rng hp
    dsimp only at h1 h2 h3 h4 h5 h6
    have h : k (.int .i64 (min (w * l) (t * (w + l)))) [] := h
    dsimp only [v28, go_sem, Option.bind, Option.map, List.append_nil, Nat.beq, List.cons_append, List.nil_append, List.append_eq, List.map_cons, List.map_nil, ite_self, reduceIte]
    simp only [true_and, and_true, imp_self, implies_true, decide_eq_true_eq, decide_eq_false_iff_not, Nat.reduceAdd, Nat.reduceLeDiff, Bool.not_not, reduceCtorEq, false_imp_iff, Bool.not_eq_true', Bool.not_eq_false', Bool.false_eq_true, and_self, forall_const, ne_eq, not_false_eq_true, Nat.reduceEqDiff]
    rw [w6_raw (x := w + l) (by omega) (by omega), w6_raw (x := w * l) (by omega) (by omega), w6_raw (x := t * (w + l)) (by omega) (by omega)]
    exact ans_int h
  · exact h.1.elim
theorem add_in {a b : Iv} (h1 : 0 ≤ a.1 ∧ a.1 ≤ a.2 ∧ a.2 ≤ 100000000000000) (h2 : 0 ≤ b.1 ∧ b.1 ≤ b.2 ∧ b.2 ≤ 1000000000000) : addF a b = ((a.1 + b.1, a.2 + b.2), 0) := by
  have h5 : ivE [a, b] = 0 := by
    unfold ivE
    rw [if_pos (by simp [numOk]; omega), if_pos (by simp; omega)]
  unfold addF fitF
  rw [if_neg (by rw [h5]; simp), if_pos (by rw [Bool.and_eq_true, numOk_iff, numOk_iff]; omega)]
theorem rforce_ok : forceC.ok Tryz.prog 32 := by
  refine contract Tryz.func32 v32_is F2_ok 200 forceC fun args k h => ⟨args, ?_⟩
  simp only [forceC, forC] at h
  split at h
  · rename_i w l t s pr
    obtain ⟨⟨hp, hp1, hp2⟩, h⟩ := h
    refine ⟨by simp [leL, le], ?_⟩
    obtain ⟨h1, h2, h3, h4⟩ := pal_rng hp
    obtain ⟨_, _, h5, h6⟩ := open_rng hp
    obtain ⟨f1, f2, f3, f4⟩ := force_rng hp hp1 hp2
    dsimp only at h1 h2 h3 h4 h5 h6
    unfold sclI at f1 f2 f3
    dsimp only at f1 f2 f3
    dsimp only [v32, F2_ct40, F2_ct39, F2_ct55, oneC, sclC, addC, iv2C, enc2, go_sem, Option.bind, Option.map, List.append_nil, Nat.beq, List.cons_append, List.nil_append, List.append_eq, List.map_cons, List.map_nil, ite_self, reduceIte]
    simp only [true_and, and_true, imp_self, implies_true, decide_eq_true_eq, decide_eq_false_iff_not, Nat.reduceAdd, Nat.reduceLeDiff, Bool.not_not, reduceCtorEq, false_imp_iff, Bool.not_eq_true', Bool.not_eq_false', Bool.false_eq_true, and_self, forall_const, ne_eq, not_false_eq_true, Nat.reduceEqDiff]
    rw [w6_raw (x := w * l) (by omega) (by omega)]
    have e := add_in (a := (sclF (w * l, w * l) pr 1000000).1) (b := (s, s)) ⟨f1.1, f3, by omega⟩ ⟨h4.1, Int.le_refl _, by show s ≤ _; omega⟩
    have h : k (.agg (enc2 (forceF ⟨w, l, t, s⟩ pr))) [] := h
    have e2 : (addF (sclF (w * l, w * l) pr 1000000).1 (s, s)).1 = forceF ⟨w, l, t, s⟩ pr := by rw [e]; rfl
    rw [← e2] at h
    exact ⟨by decide, by decide, by decide, by decide, ans_p2 (r := (addF (sclF (w * l, w * l) pr 1000000).1 (s, s)).1) h⟩
  · exact h.1.elim
theorem rarea_ok : areaC.ok Tryz.prog 24 := by
  refine contract Tryz.func24 v24_is F2_ok 200 areaC fun args k h => ?_
  simp only [areaC] at h
  split at h
  · rename_i t z n sz get
    obtain ⟨l, ⟨⟨rfl, rfl, hg⟩, hl, hv⟩, h⟩ := h
    refine ⟨[.agg [.vs t z l.length 2 (fun k => enc2 (l.getD k default))]], ⟨by simpa [le, leL] using hg, trivial⟩, ?_⟩
    have h : k (.agg (enc2 (areaF l))) [] := h
    dsimp only [v24, enc2, go_sem, Option.bind, Option.map, List.append_nil, Nat.beq, List.cons_append, List.nil_append, List.append_eq, List.map_cons, List.map_nil, ite_self, reduceIte]
    simp only [true_and, and_true, imp_self, implies_true, decide_eq_true_eq, decide_eq_false_iff_not, Nat.reduceAdd, Nat.reduceLeDiff, Bool.not_not, reduceCtorEq, false_imp_iff, Bool.not_eq_true', Bool.not_eq_false', Bool.false_eq_true, and_self, forall_const, ne_eq, not_false_eq_true, Nat.reduceEqDiff]
    refine Loop.keep [1, 0, 0] Nat (fun i => [(4, .int .i64 i)]) (fun i => [(2, .box (enc2 (areaF (l.take i))))]) [] (fun i => i ≤ l.length) (fun i => l.length - i) ?_ ?_
    · refine ⟨0, Nat.zero_le _, ?_⟩
      dsimp only [enc2, go_sem, Option.bind, Option.map, List.append_nil, Nat.beq, List.cons_append, List.nil_append, List.append_eq, List.map_cons, List.map_nil, ite_self, reduceIte]
      simp only [leS_mk, leL_cons, leL_nil, le_junk, le_int, le_bool, le_nil, leLL_nil, leLL_cons, leH_cons, leH_nil, leH1_box, leH1_own, leH1_gone, le_vs, le_agg, le_tup, le_ptr, le_own, le_xp, le_fn, le_opt, le_val, le_elem, le_nil_own, le_nil_vs, leH_ghost, leL_chunk, leXL_id, bnd_int, bnd_bool, bnd_val, bnd_nil, bnd_junk, bnd_vs, bnd_xp, bnd_agg, bnd_tup, bnd_ptr, bnd_own, bnd_elem, bnd_fn, bnd_iface, bnd_opt, bndL_nil, bndL_cons, lenH_cons, lenH_nil, imp_self, implies_true, true_and, and_true] <;> simp [areaF]
    · rintro i hi
      dsimp only [F2_ct40, F2_ct54, F2_ct55, oneC, discC, ivoC, addC, iv2C, enc2, Int.toNat_natCast, go_sem, Option.bind, Option.map, List.append_nil, Nat.beq, List.cons_append, List.nil_append, List.append_eq, List.map_cons, List.map_nil, ite_self, reduceIte]
      simp only [true_and, and_true, imp_self, implies_true, decide_eq_true_eq, decide_eq_false_iff_not, Nat.reduceAdd, Nat.reduceLeDiff, Bool.not_not, reduceCtorEq, false_imp_iff, Bool.not_eq_true', Bool.not_eq_false', Bool.false_eq_true, and_self, forall_const, ne_eq, not_false_eq_true, Nat.reduceEqDiff]
      refine ⟨fun hlt => ?_, fun hge => ?_⟩
      · have hi' : i < l.length := by omega
        have r1 := area_rng (l := l) hi hv
        have ht := toe_rng (hv _ (getD_mem hi'))
        have hd := discI_rng (b := (l.getD i default).1) (by omega) (by omega)
        have hd2 := discI_le (b := (l.getD i default).1) (by omega) (by omega)
        have e := add_in (a := areaF (l.take i)) (b := discI (l.getD i default).1) ⟨r1.1, r1.2.2.2.2, by omega⟩ ⟨hd.1, hd2, by omega⟩
        refine ⟨⟨by omega, hlt⟩, by decide, by decide, by decide, by decide, i + 1, by omega, by omega, ?_⟩
        have e' : addF ((areaF (l.take i)).1, (areaF (l.take i)).2) ((discF ((l.getD i default).1, (l.getD i default).1)).1.1, (discF ((l.getD i default).1, (l.getD i default).1)).1.2) = ((((areaF (l.take i)).1 + (discI (l.getD i default).1).1, (areaF (l.take i)).2 + (discI (l.getD i default).1).2)), 0) := e
        simp only [w_succ (i := i) (n := l.length) (by omega) (by omega), e', area_take hi', leS_mk, leL_cons, leL_nil, le_junk, le_int, le_bool, le_nil, leLL_nil, leLL_cons, leH_cons, leH_nil, leH1_box, leH1_own, leH1_gone, le_vs, le_agg, le_tup, le_ptr, le_own, le_xp, le_fn, le_opt, le_val, le_elem, le_nil_own, le_nil_vs, leH_ghost, leL_chunk, leXL_id, bnd_int, bnd_bool, bnd_val, bnd_nil, bnd_junk, bnd_vs, bnd_xp, bnd_agg, bnd_tup, bnd_ptr, bnd_own, bnd_elem, bnd_fn, bnd_iface, bnd_opt, bndL_nil, bndL_cons, lenH_cons, lenH_nil, imp_self, implies_true, true_and, and_true] <;> simp
      · rw [take_full (by omega)]
        exact ans_p2 h
  · exact h.1.elim
end Go.Proofs.YtngccjllkgpjmaaGreat

/- Chests, walked: the reference's choices. -/
/- Chests, walked: the reference's choices. -/
set_option linter.all false
namespace Go.Proofs.YtngccjllkgpjmaaGreat
open Go Go.Vx
set_option maxRecDepth 100000
set_option maxHeartbeats 4000000

end Go.Proofs.YtngccjllkgpjmaaGreat

/- Chests, walked: the laws' helpers; the document's examples; the law of Enough. -/
/- Chests, walked: the laws' helpers; the document's examples; the law of Enough. -/
set_option linter.all false
namespace Go.Proofs.YtngccjllkgpjmaaGreat
open Go Go.Vx
set_option maxRecDepth 100000
set_option maxHeartbeats 4000000

def v17 : VF := { ntmps := 2, res := [.cell 0 true 4], body :=
 (.seq (.region [⟨(some 0), none, (.alloc [(.int .i64 0), (.int .i64 0), (.int .i64 0), (.int .i64 0)]), []⟩])
 (.seq (.region [⟨(some 1), none, (.build [(.int .i64 0), (.int .i64 0), (.int .i64 0), (.int .i64 0)] [(0, 1), (1, 1), (2, 1), (3, 1)]), [.cn (.int .i64 20000), .cn (.int .i64 200000), .cn (.int .i64 6000), .cn (.int .i64 800000)]⟩,
  ⟨none, none, (.store 4), [.tm 0, .tm 1]⟩])
 .ret)) }
theorem v17_is : vfunc Tryz.prog Tryz.f17 = some v17 := by kernel_rfl
def v18 : VF := { ntmps := 17, res := [.cell 2 true 1], body :=
 (.seq (.region [⟨(some 2), none, (.alloc [.nil]), []⟩])
 (.seq (.region [⟨(some 3), none, (.alloc [.nil]), []⟩])
 (.seq (.seq (.region [⟨(some 4), none, .mov, [.cn (.int .i64 0)]⟩])
 (.block 0 (.loop (.seq (.seq (.region [⟨(some 5), none, .mov, [.tm 4]⟩,
  ⟨(some 6), none, .mov, [.tm 0]⟩,
  ⟨(some 7), none, (.cmp .lss), [.tm 5, .tm 6]⟩])
 (.cond (.tm 7) .skip
  (.exit 0)))
 (.seq (.block 1 (.region [⟨(some 10), none, (.fieldAddr 0), [.tm 3]⟩,
  ⟨(some 11), none, (.load false 1), [.tm 10]⟩,
  ⟨(some 12), none, (.build [(.int .i64 0), (.int .i64 0)] [(0, 1), (1, 1)]), [.cn (.int .i64 20000), .cn (.int .i64 700)]⟩,
  ⟨(some 13), none, (.buildSlice 2 1 [(.int .i64 0), (.int .i64 0)] [(0, 2)]), [.tm 12]⟩,
  ⟨(some 14), none, (.append 2 16 [(.int .i64 0), (.int .i64 0)]), [.tm 11, .tm 13]⟩,
  ⟨(some 15), none, (.fieldAddr 0), [.tm 3]⟩,
  ⟨none, none, (.store 1), [.tm 15, .tm 14]⟩]))
 (.region [⟨(some 8), none, .mov, [.tm 4]⟩,
  ⟨(some 9), none, (.ari .add), [.tm 8, .cn (.int .i64 1)]⟩,
  ⟨(some 4), none, .mov, [.tm 9]⟩]))))))
 (.seq (.region [⟨(some 16), none, (.load true 1), [.tm 3]⟩,
  ⟨none, none, (.store 1), [.tm 2, .tm 16]⟩])
 .ret)))) }
theorem v18_is : vfunc Tryz.prog Tryz.f18 = some v18 := by kernel_rfl
def v16 : VF := { ntmps := 26, res := [.tmp 4], body :=
 (.seq (.region [⟨(some 4), none, .mov, [.cn (.bool false)]⟩])
 (.seq (.seq (.region [⟨(some 6), none, .mov, [.tm 0]⟩,
  ⟨(some 7), none, .len, [.tm 6]⟩,
  ⟨(some 8), none, .mov, [.tm 1]⟩,
  ⟨(some 9), none, .len, [.tm 8]⟩,
  ⟨(some 10), none, (.cmp .neq), [.tm 7, .tm 9]⟩])
 (.cond (.tm 10) (.seq (.region [⟨(some 4), none, .mov, [.cn (.bool false)]⟩])
 .ret)
  .skip))
 (.seq (.seq (.region [⟨(some 5), none, .mov, [.cn (.int .i64 0)]⟩])
 (.block 0 (.loop (.seq (.seq (.region [⟨(some 11), none, .mov, [.tm 5]⟩,
  ⟨(some 12), none, .mov, [.tm 0]⟩,
  ⟨(some 13), none, .len, [.tm 12]⟩,
  ⟨(some 14), none, (.cmp .lss), [.tm 11, .tm 13]⟩])
 (.cond (.tm 14) .skip
  (.exit 0)))
 (.seq (.block 1 (.seq (.draw [] [⟨⟨(some 17), none, .mov, [.tm 0]⟩, []⟩,
  ⟨⟨(some 18), none, .mov, [.tm 5]⟩, []⟩,
  ⟨⟨(some 19), none, (.idxAddr 1), [.tm 17, .tm 18]⟩, []⟩,
  ⟨⟨(some 20), none, (.load false 1), [.tm 19]⟩, []⟩,
  ⟨⟨(some 21), none, .mov, [.tm 1]⟩, []⟩,
  ⟨⟨(some 22), none, .mov, [.tm 5]⟩, []⟩,
  ⟨⟨(some 23), none, (.idxAddr 1), [.tm 21, .tm 22]⟩, []⟩,
  ⟨⟨(some 24), none, (.load false 1), [.tm 23]⟩, []⟩,
  ⟨⟨(some 25), none, (.cmp .neq), [.tm 20, .tm 24]⟩, []⟩])
 (.cond (.tm 25) (.seq (.region [⟨(some 4), none, .mov, [.cn (.bool false)]⟩])
 .ret)
  .skip)))
 (.region [⟨(some 15), none, .mov, [.tm 5]⟩,
  ⟨(some 16), none, (.ari .add), [.tm 15, .cn (.int .i64 1)]⟩,
  ⟨(some 5), none, .mov, [.tm 16]⟩]))))))
 (.seq (.region [⟨(some 4), none, .mov, [.cn (.bool true)]⟩])
 .ret)))) }
theorem v16_is : vfunc Tryz.prog Tryz.f16 = some v16 := by kernel_rfl
def v5 : VF := { ntmps := 112, res := [.tmp 0], body :=
 (.seq (.region [⟨(some 0), none, .mov, [.cn (.bool false)]⟩])
 (.seq (.region [⟨(some 17), none, (.call 17), []⟩,
  ⟨(some 18), none, (.buildSlice 4 1 [(.int .i64 0), (.int .i64 0), (.int .i64 0), (.int .i64 0)] [(0, 4)]), [.tm 17]⟩,
  ⟨(some 1), none, .mov, [.tm 18]⟩])
 (.seq (.region [⟨(some 19), none, (.build [(.int .i64 0), (.int .i64 0), (.int .i64 0)] [(0, 1), (1, 1), (2, 1)]), [.cn (.int .i64 100), .cn (.int .i64 600), .cn (.int .i64 4000000)]⟩,
  ⟨(some 2), none, (.alloc [(.int .i64 0), (.int .i64 0), (.int .i64 0)]), []⟩,
  ⟨none, none, (.store 3), [.tm 2, .tm 19]⟩])
 (.seq (.region [⟨(some 21), none, (.call 17), []⟩,
  ⟨(some 22), none, (.call 8), [.tm 21]⟩,
  ⟨(some 20), none, .mov, [.tm 22]⟩,
  ⟨(some 23), none, (.ext 0), [.tm 20]⟩,
  ⟨(some 24), none, (.ext 1), [.tm 20]⟩,
  ⟨(some 3), none, .mov, [.tm 23]⟩,
  ⟨(some 4), none, .mov, [.tm 24]⟩])
 (.seq (.region [⟨(some 26), none, (.call 17), []⟩,
  ⟨(some 27), none, (.call 10), [.tm 26, .cn (.int .i64 600)]⟩,
  ⟨(some 25), none, .mov, [.tm 27]⟩,
  ⟨(some 28), none, (.ext 0), [.tm 25]⟩,
  ⟨(some 29), none, (.ext 1), [.tm 25]⟩,
  ⟨(some 5), none, (.alloc [(.int .i64 0), (.int .i64 0)]), []⟩,
  ⟨none, none, (.store 2), [.tm 5, .tm 28]⟩,
  ⟨(some 6), none, .mov, [.tm 29]⟩])
 (.seq (.region [⟨(some 31), none, (.call 18), [.cn (.int .i64 1)]⟩,
  ⟨(some 32), none, (.call 6), [.tm 31]⟩,
  ⟨(some 30), none, .mov, [.tm 32]⟩,
  ⟨(some 33), none, (.ext 0), [.tm 30]⟩,
  ⟨(some 34), none, (.ext 1), [.tm 30]⟩,
  ⟨(some 7), none, (.alloc [(.int .i64 0), (.int .i64 0)]), []⟩,
  ⟨none, none, (.store 2), [.tm 7, .tm 33]⟩,
  ⟨(some 8), none, .mov, [.tm 34]⟩])
 (.seq (.region [⟨(some 36), none, (.call 18), [.cn (.int .i64 1)]⟩,
  ⟨(some 37), none, .mov, [.tm 1]⟩,
  ⟨(some 38), none, (.call 19), [.tm 36, .tm 37, .cn (.int .i64 500)]⟩,
  ⟨(some 35), none, .mov, [.tm 38]⟩,
  ⟨(some 39), none, (.ext 0), [.tm 35]⟩,
  ⟨(some 40), none, (.ext 1), [.tm 35]⟩,
  ⟨(some 9), none, .mov, [.tm 39]⟩,
  ⟨(some 10), none, .mov, [.tm 40]⟩])
 (.seq (.draw [] [⟨⟨(some 43), none, .mov, [.tm 1]⟩, []⟩,
  ⟨⟨(some 44), none, (.load true 3), [.tm 2]⟩, []⟩,
  ⟨⟨(some 42), none, (.call 18), [.cn (.int .i64 8)]⟩, []⟩,
  ⟨⟨(some 45), none, (.call 20), [.tm 42, .tm 43, .tm 44]⟩, []⟩,
  ⟨⟨(some 41), none, .mov, [.tm 45]⟩, []⟩,
  ⟨⟨(some 46), none, (.ext 0), [.tm 41]⟩, []⟩,
  ⟨⟨(some 47), none, (.ext 1), [.tm 41]⟩, []⟩,
  ⟨⟨(some 11), none, .mov, [.tm 46]⟩, []⟩,
  ⟨⟨(some 12), none, .mov, [.tm 47]⟩, []⟩])
 (.seq (.draw [] [⟨⟨(some 50), none, .mov, [.tm 1]⟩, []⟩,
  ⟨⟨(some 51), none, (.load true 3), [.tm 2]⟩, []⟩,
  ⟨⟨(some 49), none, (.call 18), [.cn (.int .i64 9)]⟩, []⟩,
  ⟨⟨(some 52), none, (.call 20), [.tm 49, .tm 50, .tm 51]⟩, []⟩,
  ⟨⟨(some 48), none, .mov, [.tm 52]⟩, []⟩,
  ⟨⟨(some 53), none, (.ext 0), [.tm 48]⟩, []⟩,
  ⟨⟨(some 54), none, (.ext 1), [.tm 48]⟩, []⟩,
  ⟨⟨(some 13), none, .mov, [.tm 53]⟩, []⟩,
  ⟨⟨(some 14), none, .mov, [.tm 54]⟩, []⟩])
 (.seq (.region [⟨(some 56), none, (.build [(.int .i64 0), (.int .i64 0)] [(0, 1), (1, 1)]), [.cn (.int .i64 10000), .cn (.int .i64 700)]⟩,
  ⟨(some 57), none, (.call 12), [.tm 56, .cn (.int .i64 1000000), .cn (.int .i64 2)]⟩,
  ⟨(some 55), none, .mov, [.tm 57]⟩,
  ⟨(some 58), none, (.ext 0), [.tm 55]⟩,
  ⟨(some 59), none, (.ext 1), [.tm 55]⟩,
  ⟨(some 15), none, (.alloc [(.int .i64 0), (.int .i64 0)]), []⟩,
  ⟨none, none, (.store 2), [.tm 15, .tm 58]⟩,
  ⟨(some 16), none, .mov, [.tm 59]⟩])
 (.seq (.seq (.region [⟨(some 60), none, .mov, [.tm 4]⟩,
  ⟨(some 61), none, (.cmp .neq), [.tm 60, .cn (.int .i64 0)]⟩,
  ⟨(some 62), none, .mov, [.tm 61]⟩,
  ⟨(some 63), (some (62, false)), .mov, [.tm 6]⟩,
  ⟨(some 64), (some (62, false)), (.cmp .neq), [.tm 63, .cn (.int .i64 0)]⟩,
  ⟨(some 65), none, .or, [.tm 62, .tm 64]⟩,
  ⟨(some 66), none, .mov, [.tm 65]⟩,
  ⟨(some 67), (some (66, false)), .mov, [.tm 8]⟩,
  ⟨(some 68), (some (66, false)), (.cmp .neq), [.tm 67, .cn (.int .i64 0)]⟩,
  ⟨(some 69), none, .or, [.tm 66, .tm 68]⟩,
  ⟨(some 70), none, .mov, [.tm 69]⟩,
  ⟨(some 71), (some (70, false)), .mov, [.tm 10]⟩,
  ⟨(some 72), (some (70, false)), (.cmp .neq), [.tm 71, .cn (.int .i64 0)]⟩,
  ⟨(some 73), none, .or, [.tm 70, .tm 72]⟩,
  ⟨(some 74), none, .mov, [.tm 73]⟩,
  ⟨(some 75), (some (74, false)), .mov, [.tm 12]⟩,
  ⟨(some 76), (some (74, false)), (.cmp .neq), [.tm 75, .cn (.int .i64 0)]⟩,
  ⟨(some 77), none, .or, [.tm 74, .tm 76]⟩,
  ⟨(some 78), none, .mov, [.tm 77]⟩,
  ⟨(some 79), (some (78, false)), .mov, [.tm 14]⟩,
  ⟨(some 80), (some (78, false)), (.cmp .neq), [.tm 79, .cn (.int .i64 4)]⟩,
  ⟨(some 81), none, .or, [.tm 78, .tm 80]⟩,
  ⟨(some 82), none, .mov, [.tm 81]⟩,
  ⟨(some 83), (some (82, false)), .mov, [.tm 16]⟩,
  ⟨(some 84), (some (82, false)), (.cmp .neq), [.tm 83, .cn (.int .i64 0)]⟩,
  ⟨(some 85), none, .or, [.tm 82, .tm 84]⟩])
 (.cond (.tm 85) (.seq (.region [⟨(some 0), none, .mov, [.cn (.bool false)]⟩])
 .ret)
  .skip))
 (.seq (.region [⟨(some 86), none, .mov, [.tm 3]⟩,
  ⟨(some 87), none, (.cmp .eql), [.tm 86, .cn (.int .i64 1320000000)]⟩,
  ⟨(some 88), none, .mov, [.tm 87]⟩,
  ⟨(some 89), (some (88, true)), (.load true 2), [.tm 5]⟩,
  ⟨(some 90), (some (88, true)), (.build [(.int .i64 0), (.int .i64 0)] [(0, 1), (1, 1)]), [.cn (.int .i64 3200000), .cn (.int .i64 3200000)]⟩,
  ⟨(some 91), (some (88, true)), (.eqv false [true, true]), [.tm 89, .tm 90]⟩,
  ⟨(some 92), none, .and, [.tm 88, .tm 91]⟩,
  ⟨(some 93), none, .mov, [.tm 92]⟩,
  ⟨(some 94), (some (93, true)), (.load true 2), [.tm 7]⟩,
  ⟨(some 95), (some (93, true)), (.build [(.int .i64 0), (.int .i64 0)] [(0, 1), (1, 1)]), [.cn (.int .i64 314159265), .cn (.int .i64 314159266)]⟩,
  ⟨(some 96), (some (93, true)), (.eqv false [true, true]), [.tm 94, .tm 95]⟩,
  ⟨(some 97), none, .and, [.tm 93, .tm 96]⟩,
  ⟨(some 98), none, .mov, [.tm 97]⟩,
  ⟨(some 99), (some (98, true)), .mov, [.tm 9]⟩,
  ⟨(some 100), (some (98, true)), (.cmp .eql), [.tm 99, .cn (.int .i64 (-1))]⟩,
  ⟨(some 101), none, .and, [.tm 98, .tm 100]⟩,
  ⟨(some 102), none, .mov, [.tm 101]⟩,
  ⟨(some 103), (some (102, true)), .mov, [.tm 11]⟩,
  ⟨(some 104), (some (102, true)), (.buildSlice 1 2 [(.int .i64 0)] [(0, 1), (1, 1)]), [.cn (.int .i64 0), .cn (.int .i64 0)]⟩,
  ⟨(some 105), (some (102, true)), (.call 16), [.tm 103, .tm 104]⟩,
  ⟨(some 106), none, .and, [.tm 102, .tm 105]⟩,
  ⟨(some 107), none, .mov, [.tm 106]⟩,
  ⟨(some 108), (some (107, true)), (.load true 2), [.tm 15]⟩,
  ⟨(some 109), (some (107, true)), (.build [(.int .i64 0), (.int .i64 0)] [(0, 1), (1, 1)]), [.cn (.int .i64 10954), .cn (.int .i64 10955)]⟩,
  ⟨(some 110), (some (107, true)), (.eqv false [true, true]), [.tm 108, .tm 109]⟩,
  ⟨(some 111), none, .and, [.tm 107, .tm 110]⟩,
  ⟨(some 0), none, .mov, [.tm 111]⟩])
 .ret)))))))))))) }
theorem v5_is : vfunc Tryz.prog Tryz.f5 = some v5 := by kernel_rfl


def plC : Ctr := { alias := false, of := fun l => match l with
  | [] => .fin (.agg [.int .i64 20000, .int .i64 200000, .int .i64 6000, .int .i64 800000]) []
  | _ => noC }
def chaC : Ctr := { alias := false, of := fun l => match l with
  | [.int .i64 n] => .pre (0 ≤ n ∧ n ≤ 1000) (.fin (.agg [.vs true (decide (n.toNat = 0)) n.toNat 2 (fun _ => enc2 (20000, 700))]) [])
  | _ => noC }
def samC {α : Type} [Inhabited α] [DecidableEq α] (size : Nat) (e : α → List SV) : Ctr := { alias := false, of := fun l => match l with
  | [.vs _ _ n sz get, .vs _ _ m sz' get'] => .ex (List α) fun a => .ex (List α) fun b => .pre (lsP size e n sz get a ∧ lsP size e m sz' get' b ∧ a.length ≤ 1000000000000) (.fin (.bool (decide (a = b))) [])
  | _ => noC }
def samIC : Ctr := samC 1 enc1
def L0 : Env := { ct := fun _ => none, fn := fun _ => none, meth := fun _ _ => none }
theorem L0_ok : EnvOk Tryz.prog L0 := by
  refine ⟨fun f c h => ?_, fun f vf h => ?_, (fun _ _ _ h => by cases h), by kernel_rfl⟩
  · cases h
  · cases h

theorem pl_ok : plC.ok Tryz.prog 17 := by
  refine contract Tryz.func17 v17_is L0_ok 100 plC fun args k h => ⟨args, ?_⟩
  simp only [plC] at h
  split at h
  · refine ⟨by simp [leL, le], ?_⟩
    dsimp only [v17, go_sem, Option.bind, Option.map, List.append_nil, Nat.beq, List.cons_append, List.nil_append, List.append_eq, List.map_cons, List.map_nil, ite_self, reduceIte]
    simp only [true_and, and_true, imp_self, implies_true, decide_eq_true_eq, decide_eq_false_iff_not, Nat.reduceAdd, Nat.reduceLeDiff, Bool.not_not, reduceCtorEq, false_imp_iff, Bool.not_eq_true', Bool.not_eq_false', Bool.false_eq_true, and_self, forall_const, ne_eq, not_false_eq_true, Nat.reduceEqDiff]
    exact ans_le (show k _ [] from h) (leX_le (.agg [.int _ _, .int _ _, .int _ _, .int _ _]) _ (leXL_self _) ⟨trivial, trivial, trivial, trivial, trivial⟩) (fun _ => by simp [freshS, freshL])
  · exact h.1.elim
theorem cha_ok : chaC.ok Tryz.prog 18 := by
  refine contract Tryz.func18 v18_is L0_ok 100 chaC fun args k h => ⟨args, ?_⟩
  simp only [chaC] at h
  split at h
  · rename_i n
    obtain ⟨⟨h0, h1⟩, h⟩ := h
    refine ⟨by simp [leL, le], ?_⟩
    obtain ⟨n, rfl⟩ := Int.eq_ofNat_of_zero_le h0
    have h : k (.agg [.vs true (decide (n = 0)) n 2 (fun _ => enc2 (20000, 700))]) [] := h
    dsimp only [v18, go_sem, Option.bind, Option.map, List.append_nil, Nat.beq, List.cons_append, List.nil_append, List.append_eq, List.map_cons, List.map_nil, ite_self, reduceIte]
    simp only [true_and, and_true, imp_self, implies_true, decide_eq_true_eq, decide_eq_false_iff_not, Nat.reduceAdd, Nat.reduceLeDiff, Bool.not_not, reduceCtorEq, false_imp_iff, Bool.not_eq_true', Bool.not_eq_false', Bool.false_eq_true, and_self, forall_const, ne_eq, not_false_eq_true, Nat.reduceEqDiff]
    refine Loop.keep [0, 1, 0] Nat (fun i => [(4, .int .i64 i)]) (fun i => [(1, .box [.own 2 0 i 2]), (2, .own (decide (i = 0)) 2 i (fun _ => enc2 (20000, 700)))]) [.gone] (fun i => i ≤ n) (fun i => n - i) ?_ ?_
    · refine ⟨0, Nat.zero_le _, ?_⟩
      dsimp only [go_sem, Option.bind, Option.map, List.append_nil, Nat.beq, List.cons_append, List.nil_append, List.append_eq, List.map_cons, List.map_nil, ite_self, reduceIte]
      simp only [leH_ghost, leS_mk, leL_cons, leL_nil, le_junk, le_int, le_bool, le_nil, leLL_nil, leLL_cons, leH_cons, leH_nil, leH1_box, leH1_own, leH1_gone, le_vs, le_agg, le_tup, le_ptr, le_own, le_xp, le_fn, le_opt, le_val, le_elem, le_nil_own, le_nil_vs, leH_ghost, leL_chunk, leXL_id, bnd_int, bnd_bool, bnd_val, bnd_nil, bnd_junk, bnd_vs, bnd_xp, bnd_agg, bnd_tup, bnd_ptr, bnd_own, bnd_elem, bnd_fn, bnd_iface, bnd_opt, bndL_nil, bndL_cons, lenH_cons, lenH_nil, imp_self, implies_true, true_and, and_true] <;> simp
    · rintro i hi
      dsimp only [enc2, go_sem, Option.bind, Option.map, List.append_nil, Nat.beq, List.cons_append, List.nil_append, List.append_eq, List.map_cons, List.map_nil, ite_self, reduceIte]
      simp only [true_and, and_true, imp_self, implies_true, decide_eq_true_eq, decide_eq_false_iff_not, Nat.reduceAdd, Nat.reduceLeDiff, Bool.not_not, reduceCtorEq, false_imp_iff, Bool.not_eq_true', Bool.not_eq_false', Bool.false_eq_true, and_self, forall_const, ne_eq, not_false_eq_true, Nat.reduceEqDiff]
      refine ⟨fun hlt => ?_, fun hge => ?_⟩
      · refine ⟨by decide, ⟨by unfold capOk; omega, fun k hk => ?_⟩, i + 1, by omega, by omega, ?_⟩
        · obtain rfl : k = 0 := by omega
          exact ⟨rfl, trivial, trivial, trivial⟩
        · simp only [w_succ (i := i) (n := n) (by omega) (by omega), leS_mk, leL_cons, leL_nil, le_junk, le_int, le_bool, le_nil, leLL_nil, leLL_cons, leH_cons, leH_nil, leH1_box, leH1_own, leH1_gone, le_vs, le_agg, le_tup, le_ptr, le_own, le_xp, le_fn, le_opt, le_val, le_elem, le_nil_own, le_nil_vs, leH_ghost, leL_chunk, leXL_id, bnd_int, bnd_bool, bnd_val, bnd_nil, bnd_junk, bnd_vs, bnd_xp, bnd_agg, bnd_tup, bnd_ptr, bnd_own, bnd_elem, bnd_fn, bnd_iface, bnd_opt, bndL_nil, bndL_cons, lenH_cons, lenH_nil, imp_self, implies_true, true_and, and_true]
          refine ⟨by omega, by omega, by simp, fun k hk => ?_⟩
          split
          · exact ⟨⟨rfl, rfl⟩, ⟨rfl, rfl⟩, trivial⟩
          · obtain rfl : k = i := by omega
            rw [Nat.sub_self]
            exact ⟨⟨rfl, rfl⟩, ⟨rfl, rfl⟩, trivial⟩
      · obtain rfl : i = n := by omega
        refine ans_le (show k _ [] from h) ?_ (fun _ => by simp [enc2, freshS, freshL])
        simp only [expo, view, viewL, getH]
        exact ⟨⟨fun h => h, rfl, rfl, rfl, fun q _ => ⟨⟨rfl, rfl⟩, ⟨rfl, rfl⟩, trivial⟩⟩, trivial⟩
  · exact h.1.elim
theorem list_ne {α : Type} [Inhabited α] {a b : List α} {i : Nat} (h : a.getD i default ≠ b.getD i default) : a ≠ b := fun e => h (by rw [e])
theorem samI_ok : samIC.ok Tryz.prog 16 := by
  refine contract Tryz.func16 v16_is L0_ok 200 samIC fun args k h => ?_
  simp only [samIC, samC] at h
  split at h
  · rename_i t z n sz get t' z' m sz' get'
    obtain ⟨a, b, ⟨⟨rfl, rfl, hg⟩, ⟨rfl, rfl, hg'⟩, hbig⟩, h⟩ := h
    refine ⟨[.vs t z a.length 1 (fun k => enc1 (a.getD k default)), .vs t' z' b.length 1 (fun k => enc1 (b.getD k default))], ⟨by simpa [le] using hg, by simpa [le] using hg', trivial⟩, ?_⟩
    have h : k (.bool (decide (a = b))) [] := h
    dsimp only [v16, enc1, go_sem, Option.bind, Option.map, List.append_nil, Nat.beq, List.cons_append, List.nil_append, List.append_eq, List.map_cons, List.map_nil, ite_self, reduceIte]
    simp only [true_and, and_true, imp_self, implies_true, decide_eq_true_eq, decide_eq_false_iff_not, Nat.reduceAdd, Nat.reduceLeDiff, Bool.not_not, reduceCtorEq, false_imp_iff, Bool.not_eq_true', Bool.not_eq_false', Bool.false_eq_true, and_self, forall_const, ne_eq, not_false_eq_true, Nat.reduceEqDiff]
    refine ⟨fun hc => ?_, fun hc => ?_⟩
    · rw [decide_eq_false (show ¬ a = b from fun e => by rw [e] at hc; omega)] at h; exact ans_bool h
    · have hlen : a.length = b.length := by omega
      refine Loop.keep [0, 0, 3] Nat (fun i => [(5, .int .i64 i)]) (fun _ => []) [] (fun i => i ≤ a.length ∧ ∀ j, j < i → a.getD j default = b.getD j default) (fun i => a.length - i) ?_ ?_
      · refine ⟨0, ⟨Nat.zero_le _, fun j h => by omega⟩, ?_⟩
        dsimp only [go_sem, Option.bind, Option.map, List.append_nil, Nat.beq, List.cons_append, List.nil_append, List.append_eq, List.map_cons, List.map_nil, ite_self, reduceIte]
        simp only [leS_mk, leL_cons, leL_nil, le_junk, le_int, le_bool, le_nil, leLL_nil, leLL_cons, leH_cons, leH_nil, leH1_box, leH1_own, leH1_gone, le_vs, le_agg, le_tup, le_ptr, le_own, le_xp, le_fn, le_opt, le_val, le_elem, le_nil_own, le_nil_vs, leH_ghost, leL_chunk, leXL_id, bnd_int, bnd_bool, bnd_val, bnd_nil, bnd_junk, bnd_vs, bnd_xp, bnd_agg, bnd_tup, bnd_ptr, bnd_own, bnd_elem, bnd_fn, bnd_iface, bnd_opt, bndL_nil, bndL_cons, lenH_cons, lenH_nil, imp_self, implies_true, true_and, and_true]
        simp
      · rintro i ⟨hi, ha⟩
        dsimp only [enc1, Int.toNat_natCast, go_sem, Option.bind, Option.map, List.append_nil, Nat.beq, List.cons_append, List.nil_append, List.append_eq, List.map_cons, List.map_nil, ite_self, reduceIte]
        simp only [true_and, and_true, imp_self, implies_true, decide_eq_true_eq, decide_eq_false_iff_not, Nat.reduceAdd, Nat.reduceLeDiff, Bool.not_not, reduceCtorEq, false_imp_iff, Bool.not_eq_true', Bool.not_eq_false', Bool.false_eq_true, and_self, forall_const, ne_eq, not_false_eq_true, Nat.reduceEqDiff]
        refine ⟨fun hlt => ?_, fun hge => ?_⟩
        · refine ⟨⟨by omega, hlt⟩, ⟨by omega, by omega⟩, ?_⟩
          refine ⟨fun hne => ?_, fun heq => ?_⟩
          · rw [decide_eq_false (list_ne (a := a) (b := b) (i := i) fun e => hne (by rw [e]))] at h; exact ans_bool h
          · refine ⟨i + 1, ⟨by omega, fun j hj => ?_⟩, by omega, ?_⟩
            · rcases Nat.lt_or_ge j i with h' | h'
              · exact ha j h'
              · obtain rfl : j = i := by omega
                omega
            · simp only [w_succ (i := i) (n := a.length) (by omega) (by omega), leS_mk, leL_cons, leL_nil, le_junk, le_int, le_bool, le_nil, leLL_nil, leLL_cons, leH_cons, leH_nil, leH1_box, leH1_own, leH1_gone, le_vs, le_agg, le_tup, le_ptr, le_own, le_xp, le_fn, le_opt, le_val, le_elem, le_nil_own, le_nil_vs, leH_ghost, leL_chunk, leXL_id, bnd_int, bnd_bool, bnd_val, bnd_nil, bnd_junk, bnd_vs, bnd_xp, bnd_agg, bnd_tup, bnd_ptr, bnd_own, bnd_elem, bnd_fn, bnd_iface, bnd_opt, bndL_nil, bndL_cons, lenH_cons, lenH_nil, imp_self, implies_true, true_and, and_true] <;> simp
        · have e : a = b := list_ext hlen fun i h => ha i (by omega)
          rw [decide_eq_true e] at h; exact ans_bool h
  · exact h.1.elim

def A0 : Env := { ct := fun n => match n with | 17 => some plC | 18 => some chaC | 16 => some samIC | 8 => some OpC | 10 => some FoC | 6 => some ArC | 19 => some EnC | 20 => some ChC | 12 => some TuC | _ => none, fn := fun _ => none, meth := fun _ _ => none }
theorem A0_ct17 : A0.ct 17 = some plC := rfl
theorem A0_ct18 : A0.ct 18 = some chaC := rfl
theorem A0_ct16 : A0.ct 16 = some samIC := rfl
theorem A0_ct8 : A0.ct 8 = some OpC := rfl
theorem A0_ct10 : A0.ct 10 = some FoC := rfl
theorem A0_ct6 : A0.ct 6 = some ArC := rfl
theorem A0_ct19 : A0.ct 19 = some EnC := rfl
theorem A0_ct20 : A0.ct 20 = some ChC := rfl
theorem A0_ct12 : A0.ct 12 = some TuC := rfl
theorem A0_ok : EnvOk Tryz.prog A0 := by
  refine ⟨fun f c h => ?_, fun f vf h => ?_, (fun _ _ _ h => by cases h), by kernel_rfl⟩
  · simp only [A0] at h
    split at h
    · cases h; exact ⟨pl_ok, Tryz.f17, Tryz.func17, by kernel_rfl, by kernel_rfl⟩
    · cases h; exact ⟨cha_ok, Tryz.f18, Tryz.func18, by kernel_rfl, by kernel_rfl⟩
    · cases h; exact ⟨samI_ok, Tryz.f16, Tryz.func16, by kernel_rfl, by kernel_rfl⟩
    · cases h; exact ⟨Op_ok, Tryz.f8, Tryz.func8, by kernel_rfl, by kernel_rfl⟩
    · cases h; exact ⟨Fo_ok, Tryz.f10, Tryz.func10, by kernel_rfl, by kernel_rfl⟩
    · cases h; exact ⟨Ar_ok, Tryz.f6, Tryz.func6, by kernel_rfl, by kernel_rfl⟩
    · cases h; exact ⟨En_ok, Tryz.f19, Tryz.func19, by kernel_rfl, by kernel_rfl⟩
    · cases h; exact ⟨Ch_ok, Tryz.f20, Tryz.func20, by kernel_rfl, by kernel_rfl⟩
    · cases h; exact ⟨Tu_ok, Tryz.f12, Tryz.func12, by kernel_rfl, by kernel_rfl⟩
    · cases h
  · cases h

def toes (n : Nat) : List Iv := List.replicate n (20000, 700)
def pal0 : Plt := ⟨20000, 200000, 6000, 800000⟩
theorem toes_ls {n : Nat} : lsP 2 enc2 n 2 (fun _ => [SV.int .i64 20000, .int .i64 700]) (toes n) := by
  refine ⟨rfl, by simp [toes], fun k hk => ?_⟩
  rw [show (toes n).getD k default = (20000, 700) by simp [toes, List.getD_eq_getElem?_getD, List.getElem?_replicate, hk]]
  exact leXL_self _
theorem awake_ok : trueC.ok Tryz.prog 5 := by
  refine contract Tryz.func5 v5_is A0_ok 400 trueC fun args k h => ⟨args, ?_⟩
  simp only [trueC] at h
  split at h
  · refine ⟨by simp [leL], ?_⟩
    dsimp only [v5, A0_ct17, A0_ct18, A0_ct16, A0_ct8, A0_ct10, A0_ct6, A0_ct19, A0_ct20, A0_ct12, plC, chaC, samIC, samC, OpC, FoC, ArC, EnC, ChC, TuC, vsI, enc2, enc1, go_sem, Option.bind, Option.map, List.append_nil, Nat.beq, List.cons_append, List.nil_append, List.append_eq, List.map_cons, List.map_nil, ite_self, reduceIte]
    simp only [true_and, and_true, imp_self, implies_true, decide_eq_true_eq, decide_eq_false_iff_not, Nat.reduceAdd, Nat.reduceLeDiff, Bool.not_not, reduceCtorEq, false_imp_iff, Bool.not_eq_true', Bool.not_eq_false', Bool.false_eq_true, and_self, forall_const, ne_eq, not_false_eq_true, Nat.reduceEqDiff]
    have hp : ∀ G : Nat → List SV, leXL (G 0) (encP pal0) → lsP 4 encP 1 4 G [pal0] := fun G hG => ⟨rfl, rfl, fun k hk => match k, hk with | 0, _ => hG⟩
    refine ⟨by decide, by decide, by decide, by decide, by decide, by decide, toes 1, ⟨toes_ls, by simp [toes]⟩, by decide, by decide, by decide, toes 1, [pal0], ⟨toes_ls, hp _ (leXL_self _), by simp [toes], by simp⟩, by decide, by decide, by decide, toes 8, [pal0], ⟨toes_ls, hp _ (leXL_self _), by simp [toes], by simp⟩, ?_⟩
    refine ⟨by decide, by decide, by decide, toes 9, [pal0], ⟨toes_ls, hp _ (leXL_self _), by simp [toes], by simp⟩, by decide, by decide, by decide, by decide, ?_⟩
    have e1 : oF ⟨20000, 200000, 6000, 800000⟩ = (1320000000, 0) := by decide +kernel
    have e2 : fF ⟨20000, 200000, 6000, 800000⟩ 600 = ((3200000, 3200000), 0) := by decide +kernel
    have e3 : aF (toes 1) = ((314159265, 314159266), 0) := by decide +kernel
    have e4 : enoF (toes 1) [pal0] 500 = (-1, 0) := by decide +kernel
    have e5 : choF (toes 8) [pal0] ⟨100, 600, 4000000⟩ = ([0, 0], 0) := by decide +kernel
    have e6 : choF (toes 9) [pal0] ⟨100, 600, 4000000⟩ = ([], 4) := by decide +kernel
    have e7 : tF (10000, 700) 1000000 2 = ((10954, 10955), 0) := by decide +kernel
    simp only [e1, e2, e3, e4, e5, e6, e7]
    simp only [true_and, and_true, imp_self, implies_true, decide_eq_true_eq, decide_eq_false_iff_not, Nat.reduceAdd, Nat.reduceLeDiff, Bool.not_not, reduceCtorEq, false_imp_iff, Bool.not_eq_true', Bool.not_eq_false', Bool.false_eq_true, and_self, forall_const, ne_eq, not_false_eq_true, Nat.reduceEqDiff, decide_true, decide_false, Bool.and_true, Bool.true_and, Bool.and_false, Bool.false_and, Bool.not_true, Bool.not_false, Bool.or_false, Bool.false_or, Bool.or_true, Bool.true_or, Bool.and_self, Bool.or_self, Bool.false_eq_true, Bool.true_eq_false, false_imp_iff, forall_const, true_and, and_true, implies_true, reduceCtorEq, not_true_eq_false, not_false_eq_true, ite_true, ite_false]
    refine ⟨by decide, [0, 0], [0, 0], ⟨lsP_self, ⟨rfl, rfl, fun k hk => match k, hk with | 0, _ => leXL_self _ | 1, _ => leXL_self _⟩, by simp⟩, ?_⟩
    exact ans_bool h
  · exact h.1.elim

/-! ### Shapes -/

def shT : List Sh := [.int .i64, .int .i64]
def shP : List Sh := [.int .i64, .int .i64, .int .i64, .int .i64]
def shC : List Sh := [.slice shT]
theorem t_of {c : List SV} (h : okSL shT c) : ∃ p : Iv, c = enc2 p := by
  obtain ⟨_, _, rfl, ⟨n1, rfl, _⟩, e1⟩ := okSL_cons_inv h
  obtain ⟨_, _, rfl, ⟨n2, rfl, _⟩, e2⟩ := okSL_cons_inv e1
  cases okSL_nil_inv e2
  exact ⟨(n1, n2), rfl⟩
theorem p_of {c : List SV} (h : okSL shP c) : ∃ p : Plt, c = encP p := by
  obtain ⟨_, _, rfl, ⟨n1, rfl, _⟩, e1⟩ := okSL_cons_inv h
  obtain ⟨_, _, rfl, ⟨n2, rfl, _⟩, e2⟩ := okSL_cons_inv e1
  obtain ⟨_, _, rfl, ⟨n3, rfl, _⟩, e3⟩ := okSL_cons_inv e2
  obtain ⟨_, _, rfl, ⟨n4, rfl, _⟩, e4⟩ := okSL_cons_inv e3
  cases okSL_nil_inv e4
  exact ⟨⟨n1, n2, n3, n4⟩, rfl⟩
theorem sls_of {α : Type} [Inhabited α] {sh : List Sh} {e : α → List SV} (he : ∀ c, okSL sh c → ∃ p, c = e p) {v : SV} (h : okS (.slice sh) v) :
    ∃ (z : Bool) (l : List α), l.length ≤ maxLen ∧ leX v (.vs false z l.length (lenSh sh) (fun k => e (l.getD k default))) :=
  slice_of (fun c hc => let ⟨p, h⟩ := he c hc; ⟨p, by rw [h]; exact leXL_self _⟩) h
theorem c_of {c : List SV} (h : okSL shC c) : ∃ (z : Bool) (l : List Iv), l.length ≤ maxLen ∧ leXL c [.vs false z l.length 2 (fun k => enc2 (l.getD k default))] := by
  obtain ⟨_, _, rfl, h6, e6⟩ := okSL_cons_inv h
  cases okSL_nil_inv e6
  obtain ⟨z, l, hl, hle⟩ := sls_of (fun _ => t_of) h6
  exact ⟨z, l, hl, hle, trivial⟩

end Go.Proofs.YtngccjllkgpjmaaGreat

/- Intervals, walked: the reference's Pow. -/
/- Intervals, walked: the reference's Pow. -/
set_option linter.all false
namespace Go.Proofs.YtngccjllkgpjmaaGreat
open Go Go.Vx
set_option maxRecDepth 100000
set_option maxHeartbeats 4000000

end Go.Proofs.YtngccjllkgpjmaaGreat

/- Numbers, walked: Pow, Shift of one, Root. -/
/- Numbers, walked: Pow, Shift of one, Root. -/
set_option linter.all false
namespace Go.Proofs.YtngccjllkgpjmaaGreat
open Go Go.Vx
set_option maxRecDepth 100000
set_option maxHeartbeats 4000000

def v69 : VF := { ntmps := 34, res := [.tmp 4, .tmp 5], body :=
 (.seq (.region [⟨(some 4), none, .mov, [.cn .nil]⟩,
  ⟨(some 5), none, .mov, [.cn (.int .i64 0)]⟩])
 (.seq (.region [⟨(some 9), none, .mov, [.tm 0]⟩,
  ⟨(some 10), none, (.buildSlice 1 1 [.nil] [(0, 1)]), [.tm 9]⟩,
  ⟨(some 11), none, (.call 94), [.tm 10]⟩,
  ⟨(some 6), none, .mov, [.tm 11]⟩])
 (.seq (.seq (.region [⟨(some 12), none, .mov, [.tm 6]⟩,
  ⟨(some 13), none, (.cmp .eql), [.tm 12, .cn (.int .i64 0)]⟩,
  ⟨(some 14), none, .mov, [.tm 13]⟩,
  ⟨(some 15), (some (14, true)), .mov, [.tm 1]⟩,
  ⟨(some 16), (some (14, true)), (.cmp .lss), [.tm 15, .cn (.int .i64 0)]⟩,
  ⟨(some 17), (some (14, true)), .mov, [.tm 16]⟩,
  ⟨(some 18), (some (17, false)), .mov, [.tm 1]⟩,
  ⟨(some 19), (some (17, false)), (.cmp .gtr), [.tm 18, .cn (.int .i64 20000)]⟩,
  ⟨(some 20), (some (14, true)), .or, [.tm 17, .tm 19]⟩,
  ⟨(some 21), none, .and, [.tm 14, .tm 20]⟩])
 (.cond (.tm 21) (.region [⟨(some 6), none, .mov, [.cn (.int .i64 2)]⟩])
  .skip))
 (.seq (.seq (.region [⟨(some 22), none, .mov, [.tm 6]⟩,
  ⟨(some 23), none, (.cmp .neq), [.tm 22, .cn (.int .i64 0)]⟩])
 (.cond (.tm 23) (.seq (.region [⟨(some 24), none, .mov, [.tm 6]⟩,
  ⟨(some 4), none, .mov, [.cn .nil]⟩,
  ⟨(some 5), none, .mov, [.tm 24]⟩])
 .ret)
  .skip))
 (.seq (.region [⟨(some 26), none, .mov, [.tm 0]⟩,
  ⟨(some 27), none, .mov, [.tm 1]⟩,
  ⟨(some 28), none, (.call 98), [.tm 26, .tm 27]⟩,
  ⟨(some 25), none, .mov, [.tm 28]⟩,
  ⟨(some 29), none, (.ext 0), [.tm 25]⟩,
  ⟨(some 30), none, (.ext 1), [.tm 25]⟩,
  ⟨(some 7), none, .mov, [.tm 29]⟩,
  ⟨(some 8), none, .mov, [.tm 30]⟩])
 (.seq (.seq (.region [⟨(some 31), none, .mov, [.tm 8]⟩,
  ⟨(some 32), none, .not, [.tm 31]⟩])
 (.cond (.tm 32) (.seq (.region [⟨(some 4), none, .mov, [.cn .nil]⟩,
  ⟨(some 5), none, .mov, [.cn (.int .i64 3)]⟩])
 .ret)
  .skip))
 (.seq (.region [⟨(some 33), none, .mov, [.tm 7]⟩,
  ⟨(some 4), none, .mov, [.tm 33]⟩,
  ⟨(some 5), none, .mov, [.cn (.int .i64 0)]⟩])
 .ret))))))) }
theorem v69_is : vfunc Tryz.prog Tryz.f69 = some v69 := by kernel_rfl


def npowC : Ctr := { alias := false, of := fun l => match l with
  | [.vs _ z n sz get, .int .i64 k] => .ex Nat fun a => .ex Nat fun e => .pre (padP a n sz get ∧ n = nl a ∧ k = (e : Int) ∧ e ≤ 20000 ∧ nl a ≤ 512 ∧ nl (a ^ e) ≤ 512) (.fin (.tup [natS false (a ^ e), .int .i64 0]) [])
  | _ => noC }
def T2 : Env := { ct := fun n => match n with | 94 => some badnC | 98 => some powerC | _ => none, fn := fun _ => none, meth := fun _ _ => none }
theorem T2_ct94 : T2.ct 94 = some badnC := rfl
theorem T2_ct98 : T2.ct 98 = some powerC := rfl
theorem T2_ok : EnvOk Tryz.prog T2 := by
  refine ⟨fun f c h => ?_, fun f vf h => ?_, (fun _ _ _ h => by cases h), by kernel_rfl⟩
  · simp only [T2] at h
    split at h
    · cases h; exact ⟨bad_ok, Tryz.f94, Tryz.func94, by kernel_rfl, by kernel_rfl⟩
    · cases h; exact ⟨power_ok, Tryz.f98, Tryz.func98, by kernel_rfl, by kernel_rfl⟩
    · cases h
  · cases h


theorem ans_ni {k : SV → List HO → Prop} {al : Bool} {hp : List HO} {z : Bool} {κ : IntKind} {b : Int} {a : Nat} (h : k (.tup [natS z a, .int κ b]) []) : answers al k (.tup [.vs true z (nl a) 1 (fun k => [.int .u32 (dig a k)]), .int κ b]) hp :=
  ans_le h (le_self (.tup [natS z a, .int κ b]) ⟨trivial, trivial, trivial⟩) (fun _ => by simp [natS, freshS, freshL])

theorem npow_ok : npowC.ok Tryz.prog 69 := by
  refine contract Tryz.func69 v69_is T2_ok 300 npowC fun args k h => ?_
  simp only [npowC] at h
  split at h
  · rename_i t1 z1 n sz get e'
    obtain ⟨a, e, ⟨⟨rfl, hn, ha, hg⟩, rfl, rfl, he2, hna, hfit⟩, h⟩ := h
    refine ⟨[.vs t1 z1 (nl a) 1 (fun k => [.int .u32 (dig a k)]), .int .i64 e], ⟨by simpa [le] using hg, ⟨rfl, rfl⟩, trivial⟩, ?_⟩
    (try dsimp only [v69, T2_ct94, T2_ct98, badnC, powerC, natS, go_sem, Option.bind, Option.map, List.append_nil, Nat.beq, List.cons_append, List.nil_append, List.append_eq, List.map_cons, List.map_nil, ite_self, reduceIte])
    (try simp only [true_and, and_true, imp_self, implies_true, decide_eq_true_eq, decide_eq_false_iff_not, Nat.reduceAdd, Nat.reduceLeDiff, Bool.not_not, reduceCtorEq, false_imp_iff, Bool.not_eq_true', Bool.not_eq_false', Bool.false_eq_true, and_self, forall_const, ne_eq, not_false_eq_true, Nat.reduceEqDiff])
    have h : k (.tup [natS false (a ^ e), .int .i64 0]) [] := h
    refine ⟨by decide, [(z1, a)], ⟨⟨rfl, rfl, fun k hk => match k, hk with | 0, _ => leXL_self _⟩, by simp, by simp; exact hna⟩, fun hb => by simp [hb], fun hb => ?_, fun hb => ⟨fun hb => absurd trivial hb, a, e, ⟨padP_nl (by omega), rfl, rfl, he2, hna, hfit⟩, by decide, by decide, ans_ni h⟩⟩
    exfalso; simp at hb; omega
  · exact h.1.elim
end Go.Proofs.YtngccjllkgpjmaaGreat

/- Numbers, walked: Shift to the left, Root. (Under way.) -/
/- Numbers, walked: Shift to the left, Root. (Under way.) -/
set_option linter.all false
namespace Go.Proofs.YtngccjllkgpjmaaGreat
open Go Go.Vx
set_option maxRecDepth 100000
set_option maxHeartbeats 4000000

def v96 : VF := { ntmps := 74, res := [.tmp 4, .tmp 5], body :=
 (.seq (.region [⟨(some 4), none, .mov, [.cn .nil]⟩,
  ⟨(some 5), none, .mov, [.cn (.int .i64 0)]⟩])
 (.seq (.region [⟨(some 9), none, .mov, [.tm 0]⟩,
  ⟨(some 10), none, (.buildSlice 1 1 [.nil] [(0, 1)]), [.tm 9]⟩,
  ⟨(some 11), none, (.call 94), [.tm 10]⟩,
  ⟨(some 6), none, .mov, [.tm 11]⟩])
 (.seq (.seq (.region [⟨(some 12), none, .mov, [.tm 6]⟩,
  ⟨(some 13), none, (.cmp .eql), [.tm 12, .cn (.int .i64 0)]⟩,
  ⟨(some 14), none, .mov, [.tm 13]⟩,
  ⟨(some 15), (some (14, true)), .mov, [.tm 1]⟩,
  ⟨(some 16), (some (14, true)), (.cmp .lss), [.tm 15, .cn (.int .i64 (-20000))]⟩,
  ⟨(some 17), (some (14, true)), .mov, [.tm 16]⟩,
  ⟨(some 18), (some (17, false)), .mov, [.tm 1]⟩,
  ⟨(some 19), (some (17, false)), (.cmp .gtr), [.tm 18, .cn (.int .i64 20000)]⟩,
  ⟨(some 20), (some (14, true)), .or, [.tm 17, .tm 19]⟩,
  ⟨(some 21), none, .and, [.tm 14, .tm 20]⟩])
 (.cond (.tm 21) (.region [⟨(some 6), none, .mov, [.cn (.int .i64 2)]⟩])
  .skip))
 (.seq (.seq (.region [⟨(some 22), none, .mov, [.tm 6]⟩,
  ⟨(some 23), none, (.cmp .eql), [.tm 22, .cn (.int .i64 0)]⟩,
  ⟨(some 24), none, .mov, [.tm 23]⟩,
  ⟨(some 25), (some (24, true)), .mov, [.tm 0]⟩,
  ⟨(some 26), (some (24, true)), .len, [.tm 25]⟩,
  ⟨(some 27), (some (24, true)), (.cmp .gtr), [.tm 26, .cn (.int .i64 0)]⟩,
  ⟨(some 28), none, .and, [.tm 24, .tm 27]⟩,
  ⟨(some 29), none, .mov, [.tm 28]⟩,
  ⟨(some 30), (some (29, true)), .mov, [.tm 0]⟩,
  ⟨(some 31), (some (29, true)), (.call 95), [.tm 30]⟩,
  ⟨(some 32), (some (29, true)), .mov, [.tm 1]⟩,
  ⟨(some 33), (some (29, true)), (.ari .add), [.tm 31, .tm 32]⟩,
  ⟨(some 34), (some (29, true)), (.cmp .gtr), [.tm 33, .cn (.int .i64 16384)]⟩,
  ⟨(some 35), none, .and, [.tm 29, .tm 34]⟩])
 (.cond (.tm 35) (.region [⟨(some 6), none, .mov, [.cn (.int .i64 3)]⟩])
  .skip))
 (.seq (.seq (.region [⟨(some 36), none, .mov, [.tm 6]⟩,
  ⟨(some 37), none, (.cmp .neq), [.tm 36, .cn (.int .i64 0)]⟩])
 (.cond (.tm 37) (.seq (.region [⟨(some 38), none, .mov, [.tm 6]⟩,
  ⟨(some 4), none, .mov, [.cn .nil]⟩,
  ⟨(some 5), none, .mov, [.tm 38]⟩])
 .ret)
  .skip))
 (.seq (.region [⟨(some 39), none, (.make 1 4 [(.int .u32 0)]), [.cn (.int .i64 512), .cn (.int .i64 512)]⟩,
  ⟨(some 7), none, .mov, [.tm 39]⟩])
 (.seq (.seq (.region [⟨(some 8), none, .mov, [.cn (.int .i64 0)]⟩])
 (.block 0 (.loop (.seq (.seq (.region [⟨(some 40), none, .mov, [.tm 8]⟩,
  ⟨(some 41), none, .mov, [.tm 0]⟩,
  ⟨(some 42), none, (.call 95), [.tm 41]⟩,
  ⟨(some 43), none, (.cmp .lss), [.tm 40, .tm 42]⟩])
 (.cond (.tm 43) .skip
  (.exit 0)))
 (.seq (.block 1 (.seq (.region [⟨(some 46), none, .mov, [.tm 8]⟩,
  ⟨(some 47), none, .mov, [.tm 1]⟩,
  ⟨(some 48), none, (.ari .add), [.tm 46, .tm 47]⟩,
  ⟨(some 49), none, (.cmp .geq), [.tm 48, .cn (.int .i64 0)]⟩])
 (.cond (.tm 49) (.draw [] [⟨⟨(some 50), none, .mov, [.tm 7]⟩, []⟩,
  ⟨⟨(some 51), none, .mov, [.tm 8]⟩, []⟩,
  ⟨⟨(some 52), none, .mov, [.tm 1]⟩, []⟩,
  ⟨⟨(some 53), none, (.ari .add), [.tm 51, .tm 52]⟩, []⟩,
  ⟨⟨(some 54), none, .quo, [.tm 53, .cn (.int .i64 32)]⟩, []⟩,
  ⟨⟨(some 55), none, .mov, [.tm 7]⟩, []⟩,
  ⟨⟨(some 56), none, .mov, [.tm 8]⟩, []⟩,
  ⟨⟨(some 57), none, .mov, [.tm 1]⟩, []⟩,
  ⟨⟨(some 58), none, (.ari .add), [.tm 56, .tm 57]⟩, []⟩,
  ⟨⟨(some 59), none, .quo, [.tm 58, .cn (.int .i64 32)]⟩, []⟩,
  ⟨⟨(some 60), none, (.idxAddr 1), [.tm 55, .tm 59]⟩, []⟩,
  ⟨⟨(some 61), none, (.load false 1), [.tm 60]⟩, []⟩,
  ⟨⟨(some 62), none, .mov, [.tm 0]⟩, []⟩,
  ⟨⟨(some 63), none, .mov, [.tm 8]⟩, []⟩,
  ⟨⟨(some 65), none, .mov, [.tm 8]⟩, []⟩,
  ⟨⟨(some 66), none, .mov, [.tm 1]⟩, []⟩,
  ⟨⟨(some 67), none, (.ari .add), [.tm 65, .tm 66]⟩, []⟩,
  ⟨⟨(some 68), none, .rem, [.tm 67, .cn (.int .i64 32)]⟩, []⟩,
  ⟨⟨(some 64), none, (.call 110), [.tm 62, .tm 63]⟩, []⟩,
  ⟨⟨(some 69), none, .shl, [.tm 64, .tm 68]⟩, []⟩,
  ⟨⟨(some 70), none, (.bit .or), [.tm 61, .tm 69]⟩, []⟩,
  ⟨⟨(some 71), none, (.idxAddr 1), [.tm 50, .tm 54]⟩, []⟩,
  ⟨⟨none, none, (.store 1), [.tm 71, .tm 70]⟩, []⟩])
  .skip)))
 (.region [⟨(some 44), none, .mov, [.tm 8]⟩,
  ⟨(some 45), none, (.ari .add), [.tm 44, .cn (.int .i64 1)]⟩,
  ⟨(some 8), none, .mov, [.tm 45]⟩]))))))
 (.seq (.region [⟨(some 72), none, .mov, [.tm 7]⟩,
  ⟨(some 73), none, (.call 99), [.tm 72]⟩,
  ⟨(some 4), none, .mov, [.tm 73]⟩,
  ⟨(some 5), none, .mov, [.cn (.int .i64 0)]⟩])
 .ret)))))))) }
theorem v96_is : vfunc Tryz.prog Tryz.f96 = some v96 := by kernel_rfl


/-- A number times a power of two. -/
def shiftC : Ctr := { alias := false, of := fun l => match l with
  | [.vs _ z n sz get, .int .i64 k] => .ex Nat fun a => .ex Nat fun i => .pre (padP a n sz get ∧ n = nl a ∧ nl a ≤ 512 ∧ k = (i : Int) ∧ bitsN a + i ≤ 16384) (.fin (.tup [natS false (a * 2 ^ i), .int .i64 0]) [])
  | _ => noC }
def T3 : Env := { ct := fun n => match n with | 94 => some badnC | 95 => some sizeC | 110 => some bitC | 99 => some trimC | _ => none, fn := fun _ => none, meth := fun _ _ => none }
theorem T3_ct94 : T3.ct 94 = some badnC := rfl
theorem T3_ct95 : T3.ct 95 = some sizeC := rfl
theorem T3_ct110 : T3.ct 110 = some bitC := rfl
theorem T3_ct99 : T3.ct 99 = some trimC := rfl
theorem T3_ok : EnvOk Tryz.prog T3 := by
  refine ⟨fun f c h => ?_, fun f vf h => ?_, (fun _ _ _ h => by cases h), by kernel_rfl⟩
  · simp only [T3] at h
    split at h
    · cases h; exact ⟨bad_ok, Tryz.f94, Tryz.func94, by kernel_rfl, by kernel_rfl⟩
    · cases h; exact ⟨size_ok, Tryz.f95, Tryz.func95, by kernel_rfl, by kernel_rfl⟩
    · cases h; exact ⟨bit_ok, Tryz.f110, Tryz.func110, by kernel_rfl, by kernel_rfl⟩
    · cases h; exact ⟨trim_ok, Tryz.f99, Tryz.func99, by kernel_rfl, by kernel_rfl⟩
    · cases h
  · cases h


theorem setbit' {q i : Nat} (hb : bitN q i = 0) : dig q (i / 32) / 2 ^ (i % 32) % 2 = 0 ∧ setD q (i / 32) (dig q (i / 32) + 2 ^ (i % 32)) = q + 2 ^ i ∧ dig q (i / 32) + 2 ^ (i % 32) < 4294967296 := by
  have h1 : dig q (i / 32) / 2 ^ (i % 32) % 2 = 0 := by rw [← bitN_dig]; exact hb
  refine ⟨h1, ?_, ?_⟩
  · have e := setD_add q (i / 32) (dig q (i / 32) + 2 ^ (i % 32))
    have e2 : 2 ^ i = 2 ^ (i % 32) * 4294967296 ^ (i / 32) := by
      rw [pw_two, ← Nat.pow_add]; congr 1; omega
    rw [e2]
    rw [Nat.add_mul] at e
    omega
  · rw [← or_add h1]
    exact Nat.or_lt_two_pow (n := 32) (dig_lt _ _) (Nat.pow_lt_pow_right (by decide) (Nat.mod_lt _ (by decide)))
theorem mod_bit (a j : Nat) : a % 2 ^ (j + 1) = a % 2 ^ j + bitN a j * 2 ^ j := by
  unfold bitN
  rw [Nat.pow_succ, Nat.mod_mul, Nat.mul_comm (2 ^ j) (a / 2 ^ j % 2)]
theorem shift_bit {a i j : Nat} : bitN (a % 2 ^ j * 2 ^ i) (j + i) = 0 := by
  unfold bitN
  have h := Nat.mod_lt a (p2_pos j)
  have : a % 2 ^ j * 2 ^ i < 2 ^ (j + i) := by rw [Nat.pow_add]; exact Nat.mul_lt_mul_of_pos_right h (p2_pos i)
  rw [Nat.div_eq_of_lt this]

theorem shift_pad {a i n : Nat} (hn : n ≤ 100000) (h : bitsN a + i ≤ 32 * n) : padP (a * 2 ^ i) n 1 (fun k => [.int .u32 (dig (a * 2 ^ i) k)]) := by
  refine padP_self hn ?_
  rw [pw_two]
  exact Nat.lt_of_lt_of_le (Nat.mul_lt_mul_of_pos_right (bitsN_lt a) (p2_pos i)) (by rw [← Nat.pow_add]; exact Nat.pow_le_pow_right (by decide) h)
theorem shift_ok : shiftC.ok Tryz.prog 96 := by
  refine contract Tryz.func96 v96_is T3_ok 300 shiftC fun args k h => ?_
  simp only [shiftC] at h
  split at h
  · rename_i t1 z1 n sz get k'
    obtain ⟨a, i, ⟨⟨rfl, hn, ha, hg⟩, rfl, hn5, rfl, hbits⟩, h⟩ := h
    refine ⟨[.vs t1 z1 (nl a) 1 (fun k => [.int .u32 (dig a k)]), .int .i64 i], ⟨by simpa [le] using hg, ⟨rfl, rfl⟩, trivial⟩, ?_⟩
    dsimp only [v96, T3_ct94, T3_ct95, badnC, sizeC, natS, r_end, r_end1, r_nil, r_op, r_opg, r_runOp, r_op0, r_yld0, r_yld1, r_y, r_rbeg, r_rend, r_rend1, r_rfrm, r_rfrm1, r_range, r_rangeK, r_rangeE, r_draw, r_drawT, r_tleaf, r_tops, r_tbr, s_chkF, s_chkT, r_dnil, r_dop, r_dopg, r_dplq, r_dplh, r_dq, r_dq0, r_dcl1, r_dcl0, r_dct1, r_dct0, r_dgd, r_dgq1, r_dgq0, r_dctG, r_op1, r_eff, r_eff0, r_call, r_call0, r_inl, r_g, r_gq, r_gc, r_effg, r_effg0, r_callg, r_callg0, r_fin, r_pre, r_imp, r_all, r_ex, r_fing, r_preg, r_exg, r_inBlock, r_inLoop, r_frame, r_frame1, r_skip, r_stuck, r_region, r_seq, r_cond, r_cond1, r_block, r_exit, r_exit1, r_exit2, r_ret, r_loop, s_args0, s_args1, s_xt, s_xc, noOwn, noOwnL, padL, blankL, callee, calleeM, callArgs, eff, ctOf, ctM, ctI, getL, setL, S.put, S.upd, unopts, unopt, unoptsO, unoptsB, lazyO, guardOf, gbool, eMov, eNot, eNeg, eConv, eExt, eLenArr, eLen, eLenStr, eEqb, eEqv, allEq, eNil, negIf, eBool2, eCmp, eAri, ari, eBit, eDiv, eSh, eMinMax, foldMin, foldMax, kEq, pure1, cmpB, VO.quiet, resVals, resVal, tupled, popRet, popTo, cond, Option.bind, Option.map, eNew, eBox, asCells, lenH, snocH, eFieldAddr, eField, eLoad, cellsAt, getH, setH, dropL, takeL, mkAgg, lenL, lenS, shift, shiftL, shiftH, viewN, viewL, view, andT, junks, List.append_nil, Nat.beq, eIdxAddr, eIdxArr, idxN_0, idxN_1, idxN_2, idxN_3, eIndex, eStore, storeAt, spliceL, ones, one, eSlice, eSliceArr, bounds, subLo_z, addLo_z, subLo_one, addLo_one, eMake, eAppend, readS, repL, buildCells, chunk, purgeL, purgeLL, purgeH, purge, refs, refsL, List.cons_append, List.nil_append, wrOps, wrAl, wrDops, wrC, junkAt, putAll, putHs, headOf, headK, keepG, List.append_eq, headX, VO.isAppend, chkG, chkA, napP, napB, there, wrDtr, chkP, apartP, apartB, blk, strip, runAl, AL.ho, yld, putPs, lenN, findR, notRound, jumpK, jumpPT, jcode, List.map_cons, List.map_nil, ite_self, reduceIte]
    simp only [true_and, and_true, imp_self, implies_true, decide_eq_true_eq, decide_eq_false_iff_not, Nat.reduceAdd, Nat.reduceLeDiff, Bool.not_not, reduceCtorEq, false_imp_iff, Bool.not_eq_true', Bool.not_eq_false', Bool.false_eq_true, and_self, forall_const, ne_eq, not_false_eq_true, Nat.reduceEqDiff]
    have h : k (.tup [natS false (a * 2 ^ i), .int .i64 0]) [] := h
    have hbw : IntKind.i64.wrap ((bitsN a : Int) + (i : Int)) = ((bitsN a + i : Nat) : Int) := by rw [IntWalk.i64_in _ (by omega)]; omega
    refine ⟨by decide, [(z1, a)], ⟨⟨rfl, rfl, fun k hk => match k, hk with | 0, _ => leXL_self _⟩, by simp, by simp; exact hn5⟩, fun hb => by simp [hb], fun hb => ?_, fun hb => ⟨a, fun _ => ⟨padP_nl (by omega), rfl⟩, ?_⟩⟩
    · exfalso; simp at hb; omega
    · simp only [hbw]
      refine ⟨fun hb2 => ?_, fun hb2 => ?_⟩
      · exfalso; simp at hb2; omega
      · refine ⟨fun h => absurd trivial h, ⟨by decide, by decide, by decide, by unfold capOk; decide⟩, ?_⟩
        refine Loop.keep [0, 0, 5, 0] Nat (fun j => [(8, .int .i64 j)]) (fun j => [(1, .own false 1 512 (fun k => [.int .u32 (dig (a % 2 ^ j * 2 ^ i) k)]))]) [] (fun j => j ≤ bitsN a) (fun j => bitsN a - j) ?_ ?_
        · refine ⟨0, Nat.zero_le _, ?_⟩
          dsimp only [r_end, r_end1, r_nil, r_op, r_opg, r_runOp, r_op0, r_yld0, r_yld1, r_y, r_rbeg, r_rend, r_rend1, r_rfrm, r_rfrm1, r_range, r_rangeK, r_rangeE, r_draw, r_drawT, r_tleaf, r_tops, r_tbr, s_chkF, s_chkT, r_dnil, r_dop, r_dopg, r_dplq, r_dplh, r_dq, r_dq0, r_dcl1, r_dcl0, r_dct1, r_dct0, r_dgd, r_dgq1, r_dgq0, r_dctG, r_op1, r_eff, r_eff0, r_call, r_call0, r_inl, r_g, r_gq, r_gc, r_effg, r_effg0, r_callg, r_callg0, r_fin, r_pre, r_imp, r_all, r_ex, r_fing, r_preg, r_exg, r_inBlock, r_inLoop, r_frame, r_frame1, r_skip, r_stuck, r_region, r_seq, r_cond, r_cond1, r_block, r_exit, r_exit1, r_exit2, r_ret, r_loop, s_args0, s_args1, s_xt, s_xc, noOwn, noOwnL, padL, blankL, callee, calleeM, callArgs, eff, ctOf, ctM, ctI, getL, setL, S.put, S.upd, unopts, unopt, unoptsO, unoptsB, lazyO, guardOf, gbool, eMov, eNot, eNeg, eConv, eExt, eLenArr, eLen, eLenStr, eEqb, eEqv, allEq, eNil, negIf, eBool2, eCmp, eAri, ari, eBit, eDiv, eSh, eMinMax, foldMin, foldMax, kEq, pure1, cmpB, VO.quiet, resVals, resVal, tupled, popRet, popTo, cond, Option.bind, Option.map, eNew, eBox, asCells, lenH, snocH, eFieldAddr, eField, eLoad, cellsAt, getH, setH, dropL, takeL, mkAgg, lenL, lenS, shift, shiftL, shiftH, viewN, viewL, view, andT, junks, List.append_nil, Nat.beq, eIdxAddr, eIdxArr, idxN_0, idxN_1, idxN_2, idxN_3, eIndex, eStore, storeAt, spliceL, ones, one, eSlice, eSliceArr, bounds, subLo_z, addLo_z, subLo_one, addLo_one, eMake, eAppend, readS, repL, buildCells, chunk, purgeL, purgeLL, purgeH, purge, refs, refsL, List.cons_append, List.nil_append, wrOps, wrAl, wrDops, wrC, junkAt, putAll, putHs, headOf, headK, keepG, List.append_eq, headX, VO.isAppend, chkG, chkA, napP, napB, there, wrDtr, chkP, apartP, apartB, blk, strip, runAl, AL.ho, yld, putPs, lenN, findR, notRound, jumpK, jumpPT, jcode, List.map_cons, List.map_nil, ite_self, reduceIte]
          simp only [leS_mk, leL_cons, leL_nil, le_junk, le_int, le_bool, le_nil, leLL_nil, leLL_cons, leH_cons, leH_nil, leH1_box, leH1_own, leH1_gone, le_vs, le_agg, le_tup, le_ptr, le_own, le_xp, le_fn, le_opt, le_val, le_elem, le_nil_own, le_nil_vs, leH_ghost, leL_chunk, leXL_id, bnd_int, bnd_bool, bnd_val, bnd_nil, bnd_junk, bnd_vs, bnd_xp, bnd_agg, bnd_tup, bnd_ptr, bnd_own, bnd_elem, bnd_fn, bnd_iface, bnd_opt, bndL_nil, bndL_cons, lenH_cons, lenH_nil, imp_self, implies_true, true_and, and_true]
          simp [Nat.mod_one, dig_zero, leL, le]
        · rintro j hj
          dsimp only [T3_ct95, T3_ct110, T3_ct99, sizeC, bitC, trimC, natS, bitI, Int.toNat_natCast, r_end, r_end1, r_nil, r_op, r_opg, r_runOp, r_op0, r_yld0, r_yld1, r_y, r_rbeg, r_rend, r_rend1, r_rfrm, r_rfrm1, r_range, r_rangeK, r_rangeE, r_draw, r_drawT, r_tleaf, r_tops, r_tbr, s_chkF, s_chkT, r_dnil, r_dop, r_dopg, r_dplq, r_dplh, r_dq, r_dq0, r_dcl1, r_dcl0, r_dct1, r_dct0, r_dgd, r_dgq1, r_dgq0, r_dctG, r_op1, r_eff, r_eff0, r_call, r_call0, r_inl, r_g, r_gq, r_gc, r_effg, r_effg0, r_callg, r_callg0, r_fin, r_pre, r_imp, r_all, r_ex, r_fing, r_preg, r_exg, r_inBlock, r_inLoop, r_frame, r_frame1, r_skip, r_stuck, r_region, r_seq, r_cond, r_cond1, r_block, r_exit, r_exit1, r_exit2, r_ret, r_loop, s_args0, s_args1, s_xt, s_xc, noOwn, noOwnL, padL, blankL, callee, calleeM, callArgs, eff, ctOf, ctM, ctI, getL, setL, S.put, S.upd, unopts, unopt, unoptsO, unoptsB, lazyO, guardOf, gbool, eMov, eNot, eNeg, eConv, eExt, eLenArr, eLen, eLenStr, eEqb, eEqv, allEq, eNil, negIf, eBool2, eCmp, eAri, ari, eBit, eDiv, eSh, eMinMax, foldMin, foldMax, kEq, pure1, cmpB, VO.quiet, resVals, resVal, tupled, popRet, popTo, cond, Option.bind, Option.map, eNew, eBox, asCells, lenH, snocH, eFieldAddr, eField, eLoad, cellsAt, getH, setH, dropL, takeL, mkAgg, lenL, lenS, shift, shiftL, shiftH, viewN, viewL, view, andT, junks, List.append_nil, Nat.beq, eIdxAddr, eIdxArr, idxN_0, idxN_1, idxN_2, idxN_3, eIndex, eStore, storeAt, spliceL, ones, one, eSlice, eSliceArr, bounds, subLo_z, addLo_z, subLo_one, addLo_one, eMake, eAppend, readS, repL, buildCells, chunk, purgeL, purgeLL, purgeH, purge, refs, refsL, List.cons_append, List.nil_append, wrOps, wrAl, wrDops, wrC, junkAt, putAll, putHs, headOf, headK, keepG, List.append_eq, headX, VO.isAppend, chkG, chkA, napP, napB, there, wrDtr, chkP, apartP, apartB, blk, strip, runAl, AL.ho, yld, putPs, lenN, findR, notRound, jumpK, jumpPT, jcode, List.map_cons, List.map_nil, ite_self, reduceIte]
          simp only [true_and, and_true, imp_self, implies_true, decide_eq_true_eq, decide_eq_false_iff_not, Nat.reduceAdd, Nat.reduceLeDiff, Bool.not_not, reduceCtorEq, false_imp_iff, Bool.not_eq_true', Bool.not_eq_false', Bool.false_eq_true, and_self, forall_const, ne_eq, not_false_eq_true, Nat.reduceEqDiff]
          have e0 : IntKind.i64.wrap ((j : Int) + (i : Int)) = ((j + i : Nat) : Int) := by rw [IntWalk.i64_in _ (by omega)]; omega
          have e1 : IntKind.i64.wrap (((j + i : Nat) : Int).tdiv 32) = (((j + i) / 32 : Nat) : Int) := by
            have : ((j + i : Nat) : Int).tdiv 32 = (((j + i) / 32 : Nat) : Int) := IntWalk.up_tdiv (y := 32) rfl rfl
            rw [this, IntWalk.i64_in _ (by omega)]
          have e2 : ((j + i : Nat) : Int).tmod 32 = (((j + i) % 32 : Nat) : Int) := IntWalk.up_tmod (y := 32) rfl rfl
          simp only [e0, e1, e2, Int.toNat_natCast, show Int.toNat 512 = 512 from rfl]
          have hbl := bitsN_nl a
          refine ⟨a, ⟨padP_nl (by omega), rfl⟩, fun hlt => ?_, fun hge => ?_⟩
          · refine ⟨fun _ => ⟨by decide, by decide, ⟨by omega, by omega⟩, by omega, by decide, a, ⟨padP_nl (by omega), by omega, by omega⟩, by omega, ⟨by omega, by omega⟩, by omega, j + 1, by omega, by omega, ?_⟩, fun hneg => by exfalso; omega⟩
            have hm32 : (j + i) % 32 < 32 := Nat.mod_lt _ (by decide)
            have e4 : min ((j + i) % 32) IntKind.u32.bits = (j + i) % 32 := by show min ((j + i) % 32) 32 = _; omega
            rw [e4, IntWalk.i64_in ((j : Int) + 1) (by omega), mod_bit a j]
            have hq0 := shift_bit (a := a) (i := i) (j := j)
            obtain ⟨s1, s2, s3⟩ := setbit' hq0
            have hb2 := bitN_lt a j
            have hcell : ∀ K, (if K = (j + i) / 32 then [SV.int IntKind.u32 (IntKind.u32.wrap ↑(BitVec.ofInt IntKind.u32.bits ↑(dig (a % 2 ^ j * 2 ^ i) ((j + i) / 32)) ||| BitVec.ofInt IntKind.u32.bits (IntKind.u32.wrap (↑(bitN a j) * 2 ^ ((j + i) % 32)))).toNat)] else [SV.int IntKind.u32 ↑(dig (a % 2 ^ j * 2 ^ i) K)]) = [SV.int IntKind.u32 ↑(dig ((a % 2 ^ j + bitN a j * 2 ^ j) * 2 ^ i) K)] := by
              intro K
              rcases Nat.lt_or_ge (bitN a j) 1 with h0 | h0
              · have h0 : bitN a j = 0 := by omega
                rw [h0, show ((0 : Nat) : Int) * 2 ^ ((j + i) % 32) = ((0 : Nat) : Int) by simp, u3_nat (x := 0) (by decide), show IntKind.u32.bits = 32 from rfl, or_nat (dig_lt _ _) (by decide)]
                simp
                intro hh; rw [hh]
              · have h0 : bitN a j = 1 := by omega
                have e5 : ((1 : Nat) : Int) * 2 ^ ((j + i) % 32) = ((2 ^ ((j + i) % 32) : Nat) : Int) := by simp
                rw [h0, e5, u3_nat (x := 2 ^ ((j + i) % 32)) (Nat.pow_lt_pow_right (by decide) hm32), show IntKind.u32.bits = 32 from rfl, or_nat (dig_lt _ _) (Nat.pow_lt_pow_right (by decide) hm32), or_add s1]
                have e6 : (a % 2 ^ j + 1 * 2 ^ j) * 2 ^ i = a % 2 ^ j * 2 ^ i + 2 ^ (j + i) := by rw [Nat.one_mul, Nat.add_mul, Nat.pow_add]
                rw [e6, ← s2, dig_setD s3]
                split <;> rfl
            simp only [hcell, leS_mk, leL_cons, leL_nil, le_junk, le_int, le_bool, le_nil, leLL_nil, leLL_cons, leH_cons, leH_nil, leH1_box, leH1_own, leH1_gone, le_vs, le_agg, le_tup, le_ptr, le_own, le_xp, le_fn, le_opt, le_val, le_elem, le_nil_own, le_nil_vs, leH_ghost, leL_chunk, leXL_id, bnd_int, bnd_bool, bnd_val, bnd_nil, bnd_junk, bnd_vs, bnd_xp, bnd_agg, bnd_tup, bnd_ptr, bnd_own, bnd_elem, bnd_fn, bnd_iface, bnd_opt, bndL_nil, bndL_cons, lenH_cons, lenH_nil, imp_self, implies_true, true_and, and_true]
            omega
          · obtain rfl : j = bitsN a := by omega
            rw [Nat.mod_eq_of_lt (bitsN_lt a)]
            exact ⟨a * 2 ^ i, shift_pad (by decide) hbits, ans_ni h⟩
  · exact h.1.elim
end Go.Proofs.YtngccjllkgpjmaaGreat

/- Numbers, walked: Root. -/
/- Numbers, walked: Root. -/
set_option linter.all false
namespace Go.Proofs.YtngccjllkgpjmaaGreat
open Go Go.Vx
set_option maxRecDepth 100000
set_option maxHeartbeats 4000000

def v67 : VF := { ntmps := 62, res := [.tmp 4, .tmp 5], body :=
 (.seq (.region [⟨(some 4), none, .mov, [.cn .nil]⟩,
  ⟨(some 5), none, .mov, [.cn (.int .i64 0)]⟩])
 (.seq (.region [⟨(some 14), none, .mov, [.tm 0]⟩,
  ⟨(some 15), none, (.buildSlice 1 1 [.nil] [(0, 1)]), [.tm 14]⟩,
  ⟨(some 16), none, (.call 94), [.tm 15]⟩,
  ⟨(some 6), none, .mov, [.tm 16]⟩])
 (.seq (.seq (.region [⟨(some 17), none, .mov, [.tm 6]⟩,
  ⟨(some 18), none, (.cmp .eql), [.tm 17, .cn (.int .i64 0)]⟩,
  ⟨(some 19), none, .mov, [.tm 18]⟩,
  ⟨(some 20), (some (19, true)), .mov, [.tm 1]⟩,
  ⟨(some 21), (some (19, true)), (.cmp .lss), [.tm 20, .cn (.int .i64 1)]⟩,
  ⟨(some 22), (some (19, true)), .mov, [.tm 21]⟩,
  ⟨(some 23), (some (22, false)), .mov, [.tm 1]⟩,
  ⟨(some 24), (some (22, false)), (.cmp .gtr), [.tm 23, .cn (.int .i64 64)]⟩,
  ⟨(some 25), (some (19, true)), .or, [.tm 22, .tm 24]⟩,
  ⟨(some 26), none, .and, [.tm 19, .tm 25]⟩])
 (.cond (.tm 26) (.region [⟨(some 6), none, .mov, [.cn (.int .i64 2)]⟩])
  .skip))
 (.seq (.seq (.region [⟨(some 27), none, .mov, [.tm 6]⟩,
  ⟨(some 28), none, (.cmp .neq), [.tm 27, .cn (.int .i64 0)]⟩])
 (.cond (.tm 28) (.seq (.region [⟨(some 29), none, .mov, [.tm 6]⟩,
  ⟨(some 4), none, .mov, [.cn .nil]⟩,
  ⟨(some 5), none, .mov, [.tm 29]⟩])
 .ret)
  .skip))
 (.seq (.region [⟨(some 7), none, .mov, [.cn .nil]⟩])
 (.seq (.seq (.region [⟨(some 30), none, .mov, [.tm 0]⟩,
  ⟨(some 31), none, (.call 95), [.tm 30]⟩,
  ⟨(some 32), none, .mov, [.tm 1]⟩,
  ⟨(some 33), none, .quo, [.tm 31, .tm 32]⟩,
  ⟨(some 8), none, .mov, [.tm 33]⟩])
 (.block 0 (.loop (.seq (.seq (.region [⟨(some 34), none, .mov, [.tm 8]⟩,
  ⟨(some 35), none, (.cmp .geq), [.tm 34, .cn (.int .i64 0)]⟩])
 (.cond (.tm 35) .skip
  (.exit 0)))
 (.seq (.block 1 (.seq (.region [⟨(some 39), none, (.call 68), [.cn (.int .u64 1)]⟩,
  ⟨(some 40), none, .mov, [.tm 8]⟩,
  ⟨(some 41), none, (.call 96), [.tm 39, .tm 40]⟩,
  ⟨(some 38), none, .mov, [.tm 41]⟩,
  ⟨(some 42), none, (.ext 0), [.tm 38]⟩,
  ⟨(some 43), none, (.ext 1), [.tm 38]⟩,
  ⟨(some 9), none, .mov, [.tm 42]⟩,
  ⟨(some 10), none, .mov, [.tm 43]⟩])
 (.seq (.region [⟨(some 44), none, .mov, [.tm 7]⟩,
  ⟨(some 45), none, .mov, [.tm 9]⟩,
  ⟨(some 46), none, (.call 97), [.tm 44, .tm 45]⟩,
  ⟨(some 11), none, .mov, [.tm 46]⟩])
 (.seq (.region [⟨(some 48), none, .mov, [.tm 11]⟩,
  ⟨(some 49), none, .mov, [.tm 1]⟩,
  ⟨(some 50), none, (.call 98), [.tm 48, .tm 49]⟩,
  ⟨(some 47), none, .mov, [.tm 50]⟩,
  ⟨(some 51), none, (.ext 0), [.tm 47]⟩,
  ⟨(some 52), none, (.ext 1), [.tm 47]⟩,
  ⟨(some 12), none, .mov, [.tm 51]⟩,
  ⟨(some 13), none, .mov, [.tm 52]⟩])
 (.seq (.region [⟨(some 53), none, .mov, [.tm 13]⟩,
  ⟨(some 54), none, .mov, [.tm 53]⟩,
  ⟨(some 55), (some (54, true)), .mov, [.tm 12]⟩,
  ⟨(some 56), (some (54, true)), .mov, [.tm 0]⟩,
  ⟨(some 57), (some (54, true)), (.call 71), [.tm 55, .tm 56]⟩,
  ⟨(some 58), (some (54, true)), (.cmp .leq), [.tm 57, .cn (.int .i64 0)]⟩,
  ⟨(some 59), none, .and, [.tm 54, .tm 58]⟩])
 (.cond (.tm 59) (.region [⟨(some 60), none, .mov, [.tm 11]⟩,
  ⟨(some 7), none, .mov, [.tm 60]⟩])
  .skip))))))
 (.region [⟨(some 36), none, .mov, [.tm 8]⟩,
  ⟨(some 37), none, (.ari .sub), [.tm 36, .cn (.int .i64 1)]⟩,
  ⟨(some 8), none, .mov, [.tm 37]⟩]))))))
 (.seq (.region [⟨(some 61), none, .mov, [.tm 7]⟩,
  ⟨(some 4), none, .mov, [.tm 61]⟩,
  ⟨(some 5), none, .mov, [.cn (.int .i64 0)]⟩])
 .ret))))))) }
theorem v67_is : vfunc Tryz.prog Tryz.f67 = some v67 := by kernel_rfl


def nrootC : Ctr := { alias := false, of := fun l => match l with
  | [.vs _ z n sz get, .int .i64 k] => .ex Nat fun a => .ex Nat fun e => .pre (padP a n sz get ∧ n = nl a ∧ k = (e : Int) ∧ 1 ≤ e ∧ e ≤ 62 ∧ a < 2 ^ 63) (.all Nat fun r => .imp (r ^ e ≤ a ∧ a < (r + 1) ^ e) (.all Bool fun z => .fin (.tup [natS z r, .int .i64 0]) []))
  | _ => noC }
def T4 : Env := { ct := fun n => match n with | 94 => some badnC | 95 => some sizeC | 68 => some ofC | 96 => some shiftC | 97 => some plusC | 98 => some powerC | 71 => some orderC | _ => none, fn := fun _ => none, meth := fun _ _ => none }
theorem T4_ct94 : T4.ct 94 = some badnC := rfl
theorem T4_ct95 : T4.ct 95 = some sizeC := rfl
theorem T4_ct68 : T4.ct 68 = some ofC := rfl
theorem T4_ct96 : T4.ct 96 = some shiftC := rfl
theorem T4_ct97 : T4.ct 97 = some plusC := rfl
theorem T4_ct98 : T4.ct 98 = some powerC := rfl
theorem T4_ct71 : T4.ct 71 = some orderC := rfl
theorem T4_ok : EnvOk Tryz.prog T4 := by
  refine ⟨fun f c h => ?_, fun f vf h => ?_, (fun _ _ _ h => by cases h), by kernel_rfl⟩
  · simp only [T4] at h
    split at h
    · cases h; exact ⟨bad_ok, Tryz.f94, Tryz.func94, by kernel_rfl, by kernel_rfl⟩
    · cases h; exact ⟨size_ok, Tryz.f95, Tryz.func95, by kernel_rfl, by kernel_rfl⟩
    · cases h; exact ⟨of_ok, Tryz.f68, Tryz.func68, by kernel_rfl, by kernel_rfl⟩
    · cases h; exact ⟨shift_ok, Tryz.f96, Tryz.func96, by kernel_rfl, by kernel_rfl⟩
    · cases h; exact ⟨plus_ok, Tryz.f97, Tryz.func97, by kernel_rfl, by kernel_rfl⟩
    · cases h; exact ⟨power_ok, Tryz.f98, Tryz.func98, by kernel_rfl, by kernel_rfl⟩
    · cases h; exact ⟨order_ok, Tryz.f71, Tryz.func71, by kernel_rfl, by kernel_rfl⟩
    · cases h
  · cases h


theorem root_fits {r e : Nat} (hr : r < 2 ^ 64) (he : e ≤ 62) : nl (r ^ e) ≤ 512 := by
  have h1 : r ^ e ≤ (4294967296 ^ 2) ^ e := Nat.pow_le_pow_left (Nat.le_trans (Nat.le_of_lt hr) (by decide)) e
  rw [← Nat.pow_mul] at h1
  have h2 : 4294967296 ^ (2 * e) < 4294967296 ^ (2 * e + 1) := Nat.pow_lt_pow_right (by decide) (by omega)
  exact Nat.le_trans (nl_le (n := 2 * e + 1).2 (Nat.lt_of_le_of_lt h1 h2)) (by omega)
theorem root_top {a e : Nat} (he : 1 ≤ e) : a < (0 + 2 ^ (bitsN a / e + 1)) ^ e := by
  rw [Nat.zero_add, ← Nat.pow_mul]
  refine Nat.lt_of_lt_of_le (bitsN_lt a) (Nat.pow_le_pow_right (by decide) ?_)
  have h := Nat.div_add_mod (bitsN a) e
  have h2 := Nat.mod_lt (bitsN a) (show 0 < e by omega)
  rw [Nat.mul_comm] at h
  rw [Nat.add_mul]; omega
theorem root_le {r e a : Nat} (he : 1 ≤ e) (h : r ^ e ≤ a) : r ≤ a := by
  rcases Nat.eq_zero_or_pos r with h0 | h0
  · omega
  · exact Nat.le_trans (by conv => lhs; rw [← Nat.pow_one r]
                           exact Nat.pow_le_pow_right h0 he) h
theorem nroot_ok : nrootC.ok Tryz.prog 67 := by
  refine contract Tryz.func67 v67_is T4_ok 300 nrootC fun args k h => ?_
  simp only [nrootC] at h
  split at h
  · rename_i t1 z1 n sz get k'
    obtain ⟨a, e, ⟨⟨rfl, hn, ha, hg⟩, rfl, rfl, he1, he2, ha63⟩, h⟩ := h
    have hn5 : nl a ≤ 2 := nl_le.2 (Nat.lt_trans ha63 (by decide))
    refine ⟨[.vs t1 z1 (nl a) 1 (fun k => [.int .u32 (dig a k)]), .int .i64 e], ⟨by simpa [le] using hg, ⟨rfl, rfl⟩, trivial⟩, ?_⟩
    dsimp only [v67, T4_ct94, T4_ct95, badnC, sizeC, natS, r_end, r_end1, r_nil, r_op, r_opg, r_runOp, r_op0, r_yld0, r_yld1, r_y, r_rbeg, r_rend, r_rend1, r_rfrm, r_rfrm1, r_range, r_rangeK, r_rangeE, r_draw, r_drawT, r_tleaf, r_tops, r_tbr, s_chkF, s_chkT, r_dnil, r_dop, r_dopg, r_dplq, r_dplh, r_dq, r_dq0, r_dcl1, r_dcl0, r_dct1, r_dct0, r_dgd, r_dgq1, r_dgq0, r_dctG, r_op1, r_eff, r_eff0, r_call, r_call0, r_inl, r_g, r_gq, r_gc, r_effg, r_effg0, r_callg, r_callg0, r_fin, r_pre, r_imp, r_all, r_ex, r_fing, r_preg, r_exg, r_inBlock, r_inLoop, r_frame, r_frame1, r_skip, r_stuck, r_region, r_seq, r_cond, r_cond1, r_block, r_exit, r_exit1, r_exit2, r_ret, r_loop, s_args0, s_args1, s_xt, s_xc, noOwn, noOwnL, padL, blankL, callee, calleeM, callArgs, eff, ctOf, ctM, ctI, getL, setL, S.put, S.upd, unopts, unopt, unoptsO, unoptsB, lazyO, guardOf, gbool, eMov, eNot, eNeg, eConv, eExt, eLenArr, eLen, eLenStr, eEqb, eEqv, allEq, eNil, negIf, eBool2, eCmp, eAri, ari, eBit, eDiv, eSh, eMinMax, foldMin, foldMax, kEq, pure1, cmpB, VO.quiet, resVals, resVal, tupled, popRet, popTo, cond, Option.bind, Option.map, eNew, eBox, asCells, lenH, snocH, eFieldAddr, eField, eLoad, cellsAt, getH, setH, dropL, takeL, mkAgg, lenL, lenS, shift, shiftL, shiftH, viewN, viewL, view, andT, junks, List.append_nil, Nat.beq, eIdxAddr, eIdxArr, idxN_0, idxN_1, idxN_2, idxN_3, eIndex, eStore, storeAt, spliceL, ones, one, eSlice, eSliceArr, bounds, subLo_z, addLo_z, subLo_one, addLo_one, eMake, eAppend, readS, repL, buildCells, chunk, purgeL, purgeLL, purgeH, purge, refs, refsL, List.cons_append, List.nil_append, wrOps, wrAl, wrDops, wrC, junkAt, putAll, putHs, headOf, headK, keepG, List.append_eq, headX, VO.isAppend, chkG, chkA, napP, napB, there, wrDtr, chkP, apartP, apartB, blk, strip, runAl, AL.ho, yld, putPs, lenN, findR, notRound, jumpK, jumpPT, jcode, List.map_cons, List.map_nil, ite_self, reduceIte]
    simp only [true_and, and_true, imp_self, implies_true, decide_eq_true_eq, decide_eq_false_iff_not, Nat.reduceAdd, Nat.reduceLeDiff, Bool.not_not, reduceCtorEq, false_imp_iff, Bool.not_eq_true', Bool.not_eq_false', Bool.false_eq_true, and_self, forall_const, ne_eq, not_false_eq_true, Nat.reduceEqDiff]
    have hbs : bitsN a ≤ 63 := bitsN_le.2 ha63
    refine ⟨by decide, [(z1, a)], ⟨⟨rfl, rfl, fun k hk => match k, hk with | 0, _ => leXL_self _⟩, by simp, by simp; omega⟩, fun hb => by simp [hb], fun hb => ?_, fun hb => ⟨fun hb => absurd trivial hb, a, ⟨padP_nl (by omega), rfl⟩, by omega, ?_⟩⟩
    · exfalso; simp at hb; omega
    · have hdv : IntKind.i64.wrap ((bitsN a : Int).tdiv (e : Int)) = ((bitsN a / e : Nat) : Int) := by
        have h1 : (bitsN a : Int).tdiv (e : Int) = ((bitsN a / e : Nat) : Int) := by rw [Int.tdiv_eq_ediv_of_nonneg (by omega)]; simp
        have h2 : bitsN a / e ≤ bitsN a := Nat.div_le_self _ _
        rw [h1]
        generalize bitsN a / e = G at *
        rw [IntWalk.i64_in _ (by omega)]
      rw [hdv]
      have hde : bitsN a / e ≤ bitsN a := Nat.div_le_self _ _
      have htop := root_top (a := a) he1
      clear hdv
      generalize bitsN a / e = G at *
      refine Loop.keep [0, 0, 5, 0] (Nat × Nat × Bool) (fun x => [(7, .vs true x.2.2 (nl x.2.1) 1 (fun k => [.int .u32 (dig x.2.1 k)])), (8, .int .i64 ((x.1 : Int) - 1))]) (fun _ => []) [] (fun x => x.1 ≤ G + 1 ∧ x.2.1 ^ e ≤ a ∧ a < (x.2.1 + 2 ^ x.1) ^ e) (fun x => x.1) ?_ ?_
      · refine ⟨(G + 1, 0, true), ⟨Nat.le_refl _, ?_, htop⟩, ?_⟩
        · rw [Nat.zero_pow (by omega)]; omega
        · dsimp only [r_end, r_end1, r_nil, r_op, r_opg, r_runOp, r_op0, r_yld0, r_yld1, r_y, r_rbeg, r_rend, r_rend1, r_rfrm, r_rfrm1, r_range, r_rangeK, r_rangeE, r_draw, r_drawT, r_tleaf, r_tops, r_tbr, s_chkF, s_chkT, r_dnil, r_dop, r_dopg, r_dplq, r_dplh, r_dq, r_dq0, r_dcl1, r_dcl0, r_dct1, r_dct0, r_dgd, r_dgq1, r_dgq0, r_dctG, r_op1, r_eff, r_eff0, r_call, r_call0, r_inl, r_g, r_gq, r_gc, r_effg, r_effg0, r_callg, r_callg0, r_fin, r_pre, r_imp, r_all, r_ex, r_fing, r_preg, r_exg, r_inBlock, r_inLoop, r_frame, r_frame1, r_skip, r_stuck, r_region, r_seq, r_cond, r_cond1, r_block, r_exit, r_exit1, r_exit2, r_ret, r_loop, s_args0, s_args1, s_xt, s_xc, noOwn, noOwnL, padL, blankL, callee, calleeM, callArgs, eff, ctOf, ctM, ctI, getL, setL, S.put, S.upd, unopts, unopt, unoptsO, unoptsB, lazyO, guardOf, gbool, eMov, eNot, eNeg, eConv, eExt, eLenArr, eLen, eLenStr, eEqb, eEqv, allEq, eNil, negIf, eBool2, eCmp, eAri, ari, eBit, eDiv, eSh, eMinMax, foldMin, foldMax, kEq, pure1, cmpB, VO.quiet, resVals, resVal, tupled, popRet, popTo, cond, Option.bind, Option.map, eNew, eBox, asCells, lenH, snocH, eFieldAddr, eField, eLoad, cellsAt, getH, setH, dropL, takeL, mkAgg, lenL, lenS, shift, shiftL, shiftH, viewN, viewL, view, andT, junks, List.append_nil, Nat.beq, eIdxAddr, eIdxArr, idxN_0, idxN_1, idxN_2, idxN_3, eIndex, eStore, storeAt, spliceL, ones, one, eSlice, eSliceArr, bounds, subLo_z, addLo_z, subLo_one, addLo_one, eMake, eAppend, readS, repL, buildCells, chunk, purgeL, purgeLL, purgeH, purge, refs, refsL, List.cons_append, List.nil_append, wrOps, wrAl, wrDops, wrC, junkAt, putAll, putHs, headOf, headK, keepG, List.append_eq, headX, VO.isAppend, chkG, chkA, napP, napB, there, wrDtr, chkP, apartP, apartB, blk, strip, runAl, AL.ho, yld, putPs, lenN, findR, notRound, jumpK, jumpPT, jcode, List.map_cons, List.map_nil, ite_self, reduceIte]
          simp only [leS_mk, leL_cons, leL_nil, le_junk, le_int, le_bool, le_nil, leLL_nil, leLL_cons, leH_cons, leH_nil, leH1_box, leH1_own, leH1_gone, le_vs, le_agg, le_tup, le_ptr, le_own, le_xp, le_fn, le_opt, le_val, le_elem, le_nil_own, le_nil_vs, leH_ghost, leL_chunk, leXL_id, bnd_int, bnd_bool, bnd_val, bnd_nil, bnd_junk, bnd_vs, bnd_xp, bnd_agg, bnd_tup, bnd_ptr, bnd_own, bnd_elem, bnd_fn, bnd_iface, bnd_opt, bndL_nil, bndL_cons, lenH_cons, lenH_nil, imp_self, implies_true, true_and, and_true]
          simp [leL, le, nl_0]
      · rintro ⟨j, r, z⟩ ⟨hj, hr1, hr2⟩
        dsimp only at hj hr1 hr2
        dsimp only [T4_ct68, T4_ct96, T4_ct97, T4_ct98, T4_ct71, ofC, shiftC, plusC, powerC, orderC, natS, r_end, r_end1, r_nil, r_op, r_opg, r_runOp, r_op0, r_yld0, r_yld1, r_y, r_rbeg, r_rend, r_rend1, r_rfrm, r_rfrm1, r_range, r_rangeK, r_rangeE, r_draw, r_drawT, r_tleaf, r_tops, r_tbr, s_chkF, s_chkT, r_dnil, r_dop, r_dopg, r_dplq, r_dplh, r_dq, r_dq0, r_dcl1, r_dcl0, r_dct1, r_dct0, r_dgd, r_dgq1, r_dgq0, r_dctG, r_op1, r_eff, r_eff0, r_call, r_call0, r_inl, r_g, r_gq, r_gc, r_effg, r_effg0, r_callg, r_callg0, r_fin, r_pre, r_imp, r_all, r_ex, r_fing, r_preg, r_exg, r_inBlock, r_inLoop, r_frame, r_frame1, r_skip, r_stuck, r_region, r_seq, r_cond, r_cond1, r_block, r_exit, r_exit1, r_exit2, r_ret, r_loop, s_args0, s_args1, s_xt, s_xc, noOwn, noOwnL, padL, blankL, callee, calleeM, callArgs, eff, ctOf, ctM, ctI, getL, setL, S.put, S.upd, unopts, unopt, unoptsO, unoptsB, lazyO, guardOf, gbool, eMov, eNot, eNeg, eConv, eExt, eLenArr, eLen, eLenStr, eEqb, eEqv, allEq, eNil, negIf, eBool2, eCmp, eAri, ari, eBit, eDiv, eSh, eMinMax, foldMin, foldMax, kEq, pure1, cmpB, VO.quiet, resVals, resVal, tupled, popRet, popTo, cond, Option.bind, Option.map, eNew, eBox, asCells, lenH, snocH, eFieldAddr, eField, eLoad, cellsAt, getH, setH, dropL, takeL, mkAgg, lenL, lenS, shift, shiftL, shiftH, viewN, viewL, view, andT, junks, List.append_nil, Nat.beq, eIdxAddr, eIdxArr, idxN_0, idxN_1, idxN_2, idxN_3, eIndex, eStore, storeAt, spliceL, ones, one, eSlice, eSliceArr, bounds, subLo_z, addLo_z, subLo_one, addLo_one, eMake, eAppend, readS, repL, buildCells, chunk, purgeL, purgeLL, purgeH, purge, refs, refsL, List.cons_append, List.nil_append, wrOps, wrAl, wrDops, wrC, junkAt, putAll, putHs, headOf, headK, keepG, List.append_eq, headX, VO.isAppend, chkG, chkA, napP, napB, there, wrDtr, chkP, apartP, apartB, blk, strip, runAl, AL.ho, yld, putPs, lenN, findR, notRound, jumpK, jumpPT, jcode, List.map_cons, List.map_nil, ite_self, reduceIte]
        simp only [true_and, and_true, imp_self, implies_true, decide_eq_true_eq, decide_eq_false_iff_not, Nat.reduceAdd, Nat.reduceLeDiff, Bool.not_not, reduceCtorEq, false_imp_iff, Bool.not_eq_true', Bool.not_eq_false', Bool.false_eq_true, and_self, forall_const, ne_eq, not_false_eq_true, Nat.reduceEqDiff]
        refine ⟨fun hlt => ?_, fun hge => ?_⟩
        · obtain ⟨i, rfl⟩ : ∃ i, j = i + 1 := ⟨j - 1, by omega⟩
          have e0 : ((i + 1 : Nat) : Int) - 1 = i := by omega
          rw [e0]
          have hra := root_le he1 hr1
          have h2i : 2 ^ i ≤ 2 ^ 63 := Nat.pow_le_pow_right (by decide) (by omega)
          have h64 : r + 1 * 2 ^ i < 2 ^ 64 := by rw [Nat.one_mul]; omega
          have hnr : nl r ≤ 2 := nl_le.2 (Nat.lt_of_le_of_lt hra (Nat.lt_trans ha63 (by decide)))
          have hnt : nl (r + 1 * 2 ^ i) ≤ 2 := nl_le.2 (Nat.lt_of_lt_of_le h64 (by decide))
          have hni : nl (1 * 2 ^ i) ≤ 2 := nl_le.2 (Nat.lt_of_le_of_lt (by omega) (Nat.lt_of_lt_of_le h64 (by decide)))
          have hn1 : nl 1 ≤ 2 := nl_le.2 (by decide)
          have hb1 : bitsN 1 ≤ 1 := bitsN_le.2 (by decide)
          have hpf := root_fits (e := e) h64 he2
          refine ⟨by decide, 1, i, ⟨padP_nl (a := 1) (by omega), rfl, by omega, rfl, by omega⟩, by decide, by decide, r, 1 * 2 ^ i, ⟨padP_nl (by omega), padP_nl (by omega), by omega, by omega⟩,
            r + 1 * 2 ^ i, e, ⟨padP_nl (by omega), rfl, rfl, by omega, by omega, hpf⟩, by decide, by decide, (r + 1 * 2 ^ i) ^ e, a, ⟨padP_nl (by omega), padP_nl (by omega)⟩, fun hc => ?_, fun hc => ?_⟩
          · have hle : (r + 1 * 2 ^ i) ^ e ≤ a := by
              simp only [Bool.true_and, decide_eq_true_eq] at hc
              unfold ordN at hc
              split at hc
              · omega
              · split at hc <;> omega
            refine ⟨(i, r + 1 * 2 ^ i, false), ⟨by simp only; omega, hle, ?_⟩, by simp only; omega, ?_⟩
            · dsimp only
              rw [Nat.one_mul, Nat.add_assoc, ← Nat.mul_two, ← Nat.pow_succ]; exact hr2
            · rw [IntWalk.i64_in ((i : Int) - 1) (by omega)]
              simp only [leS_mk, leL_cons, leL_nil, le_junk, le_int, le_bool, le_nil, leLL_nil, leLL_cons, leH_cons, leH_nil, leH1_box, leH1_own, leH1_gone, le_vs, le_agg, le_tup, le_ptr, le_own, le_xp, le_fn, le_opt, le_val, le_elem, le_nil_own, le_nil_vs, leH_ghost, leL_chunk, leXL_id, bnd_int, bnd_bool, bnd_val, bnd_nil, bnd_junk, bnd_vs, bnd_xp, bnd_agg, bnd_tup, bnd_ptr, bnd_own, bnd_elem, bnd_fn, bnd_iface, bnd_opt, bndL_nil, bndL_cons, lenH_cons, lenH_nil, imp_self, implies_true, true_and, and_true]
          · have hlt : a < (r + 2 ^ i) ^ e := by
              simp only [Bool.true_and, decide_eq_false_iff_not] at hc
              unfold ordN at hc
              rw [Nat.one_mul] at hc
              split at hc
              · omega
              · split at hc <;> omega
            refine ⟨(i, r, z), ⟨by simp only; omega, hr1, hlt⟩, by simp only; omega, ?_⟩
            rw [IntWalk.i64_in ((i : Int) - 1) (by omega)]
            simp only [leS_mk, leL_cons, leL_nil, le_junk, le_int, le_bool, le_nil, leLL_nil, leLL_cons, leH_cons, leH_nil, leH1_box, leH1_own, leH1_gone, le_vs, le_agg, le_tup, le_ptr, le_own, le_xp, le_fn, le_opt, le_val, le_elem, le_nil_own, le_nil_vs, leH_ghost, leL_chunk, leXL_id, bnd_int, bnd_bool, bnd_val, bnd_nil, bnd_junk, bnd_vs, bnd_xp, bnd_agg, bnd_tup, bnd_ptr, bnd_own, bnd_elem, bnd_fn, bnd_iface, bnd_opt, bndL_nil, bndL_cons, lenH_cons, lenH_nil, imp_self, implies_true, true_and, and_true]
        · obtain rfl : j = 0 := by omega
          have h : k (.tup [natS z r, .int .i64 0]) [] := h r ⟨hr1, by simpa using hr2⟩ z
          exact ans_ni h
  · exact h.1.elim
end Go.Proofs.YtngccjllkgpjmaaGreat

/- Intervals, walked: the reference's Root. -/
/- Intervals, walked: the reference's Root. -/
set_option linter.all false
namespace Go.Proofs.YtngccjllkgpjmaaGreat
open Go Go.Vx
set_option maxRecDepth 100000
set_option maxHeartbeats 4000000

def v41 : VF := { ntmps := 88, res := [.cell 4 true 2, .tmp 5], body :=
 (.seq (.region [⟨(some 2), none, .box, [.tm 0]⟩,
  ⟨(some 4), none, (.alloc [(.int .i64 0), (.int .i64 0)]), []⟩,
  ⟨(some 5), none, .mov, [.cn (.int .i64 0)]⟩])
 (.seq (.region [⟨(some 17), none, (.load true 2), [.tm 2]⟩,
  ⟨(some 18), none, (.call 62), [.tm 17]⟩,
  ⟨(some 6), none, .mov, [.tm 18]⟩])
 (.seq (.seq (.region [⟨(some 19), none, .mov, [.tm 6]⟩,
  ⟨(some 20), none, (.cmp .eql), [.tm 19, .cn (.int .i64 0)]⟩,
  ⟨(some 21), none, .mov, [.tm 20]⟩,
  ⟨(some 22), (some (21, true)), .mov, [.tm 1]⟩,
  ⟨(some 23), (some (21, true)), (.cmp .lss), [.tm 22, .cn (.int .i64 1)]⟩,
  ⟨(some 24), (some (21, true)), .mov, [.tm 23]⟩,
  ⟨(some 25), (some (24, false)), .mov, [.tm 1]⟩,
  ⟨(some 26), (some (24, false)), (.cmp .gtr), [.tm 25, .cn (.int .i64 62)]⟩,
  ⟨(some 27), (some (21, true)), .or, [.tm 24, .tm 26]⟩,
  ⟨(some 28), none, .and, [.tm 21, .tm 27]⟩])
 (.cond (.tm 28) (.region [⟨(some 6), none, .mov, [.cn (.int .i64 2)]⟩])
  .skip))
 (.seq (.seq (.region [⟨(some 29), none, .mov, [.tm 6]⟩,
  ⟨(some 30), none, (.cmp .eql), [.tm 29, .cn (.int .i64 0)]⟩,
  ⟨(some 31), none, .mov, [.tm 30]⟩,
  ⟨(some 32), (some (31, true)), (.fieldAddr 0), [.tm 2]⟩,
  ⟨(some 33), (some (31, true)), (.load false 1), [.tm 32]⟩,
  ⟨(some 34), (some (31, true)), (.cmp .lss), [.tm 33, .cn (.int .i64 0)]⟩,
  ⟨(some 35), none, .and, [.tm 31, .tm 34]⟩])
 (.cond (.tm 35) (.region [⟨(some 6), none, .mov, [.cn (.int .i64 9)]⟩])
  .skip))
 (.seq (.seq (.region [⟨(some 36), none, .mov, [.tm 6]⟩,
  ⟨(some 37), none, (.cmp .neq), [.tm 36, .cn (.int .i64 0)]⟩])
 (.cond (.tm 37) (.seq (.region [⟨(some 38), none, (.build [(.int .i64 0), (.int .i64 0)] []), []⟩,
  ⟨(some 39), none, .mov, [.tm 6]⟩,
  ⟨none, none, (.store 2), [.tm 4, .tm 38]⟩,
  ⟨(some 5), none, .mov, [.tm 39]⟩])
 .ret)
  .skip))
 (.seq (.region [⟨(some 41), none, (.fieldAddr 0), [.tm 2]⟩,
  ⟨(some 42), none, (.load false 1), [.tm 41]⟩,
  ⟨(some 43), none, (.conv .u64), [.tm 42]⟩,
  ⟨(some 44), none, (.call 68), [.tm 43]⟩,
  ⟨(some 45), none, .mov, [.tm 1]⟩,
  ⟨(some 46), none, (.call 67), [.tm 44, .tm 45]⟩,
  ⟨(some 40), none, .mov, [.tm 46]⟩,
  ⟨(some 47), none, (.ext 0), [.tm 40]⟩,
  ⟨(some 48), none, (.ext 1), [.tm 40]⟩,
  ⟨(some 7), none, .mov, [.tm 47]⟩,
  ⟨(some 8), none, .mov, [.tm 48]⟩])
 (.seq (.region [⟨(some 50), none, (.fieldAddr 1), [.tm 2]⟩,
  ⟨(some 51), none, (.load false 1), [.tm 50]⟩,
  ⟨(some 52), none, (.conv .u64), [.tm 51]⟩,
  ⟨(some 53), none, (.call 68), [.tm 52]⟩,
  ⟨(some 54), none, .mov, [.tm 1]⟩,
  ⟨(some 55), none, (.call 67), [.tm 53, .tm 54]⟩,
  ⟨(some 49), none, .mov, [.tm 55]⟩,
  ⟨(some 56), none, (.ext 0), [.tm 49]⟩,
  ⟨(some 57), none, (.ext 1), [.tm 49]⟩,
  ⟨(some 9), none, .mov, [.tm 56]⟩,
  ⟨(some 10), none, .mov, [.tm 57]⟩])
 (.seq (.region [⟨(some 59), none, .mov, [.tm 9]⟩,
  ⟨(some 60), none, .mov, [.tm 1]⟩,
  ⟨(some 61), none, (.call 69), [.tm 59, .tm 60]⟩,
  ⟨(some 58), none, .mov, [.tm 61]⟩,
  ⟨(some 62), none, (.ext 0), [.tm 58]⟩,
  ⟨(some 63), none, (.ext 1), [.tm 58]⟩,
  ⟨(some 11), none, .mov, [.tm 62]⟩,
  ⟨(some 12), none, .mov, [.tm 63]⟩])
 (.seq (.region [⟨(some 65), none, .mov, [.tm 7]⟩,
  ⟨(some 66), none, (.call 70), [.tm 65]⟩,
  ⟨(some 64), none, .mov, [.tm 66]⟩,
  ⟨(some 67), none, (.ext 0), [.tm 64]⟩,
  ⟨(some 68), none, (.ext 1), [.tm 64]⟩,
  ⟨(some 13), none, .mov, [.tm 67]⟩,
  ⟨(some 14), none, .mov, [.tm 68]⟩])
 (.seq (.region [⟨(some 70), none, .mov, [.tm 9]⟩,
  ⟨(some 71), none, (.call 70), [.tm 70]⟩,
  ⟨(some 69), none, .mov, [.tm 71]⟩,
  ⟨(some 72), none, (.ext 0), [.tm 69]⟩,
  ⟨(some 73), none, (.ext 1), [.tm 69]⟩,
  ⟨(some 15), none, .mov, [.tm 72]⟩,
  ⟨(some 16), none, .mov, [.tm 73]⟩])
 (.seq (.seq (.region [⟨(some 74), none, .mov, [.tm 11]⟩,
  ⟨(some 75), none, (.fieldAddr 1), [.tm 2]⟩,
  ⟨(some 76), none, (.load false 1), [.tm 75]⟩,
  ⟨(some 77), none, (.conv .u64), [.tm 76]⟩,
  ⟨(some 78), none, (.call 68), [.tm 77]⟩,
  ⟨(some 79), none, (.call 71), [.tm 74, .tm 78]⟩,
  ⟨(some 80), none, (.cmp .lss), [.tm 79, .cn (.int .i64 0)]⟩])
 (.cond (.tm 80) (.region [⟨(some 81), none, .mov, [.tm 15]⟩,
  ⟨(some 82), none, (.ari .add), [.tm 81, .cn (.int .u64 1)]⟩,
  ⟨(some 15), none, .mov, [.tm 82]⟩])
  .skip))
 (.seq (.region [⟨(some 83), none, .mov, [.tm 13]⟩,
  ⟨(some 84), none, (.conv .i64), [.tm 83]⟩,
  ⟨(some 85), none, .mov, [.tm 15]⟩,
  ⟨(some 86), none, (.conv .i64), [.tm 85]⟩,
  ⟨(some 87), none, (.build [(.int .i64 0), (.int .i64 0)] [(0, 1), (1, 1)]), [.tm 84, .tm 86]⟩,
  ⟨none, none, (.store 2), [.tm 4, .tm 87]⟩,
  ⟨(some 5), none, .mov, [.cn (.int .i64 0)]⟩])
 .ret)))))))))))) }
theorem v41_is : vfunc Tryz.prog Tryz.f41 = some v41 := by kernel_rfl

def S8 : Env := { ct := fun n => match n with | 62 => some iv1C | 68 => some ofC | 67 => some nrootC | 69 => some npowC | 70 => some smallC | 71 => some orderC | _ => none, fn := fun _ => none, meth := fun _ _ => none }
theorem S8_ct62 : S8.ct 62 = some iv1C := rfl
theorem S8_ct68 : S8.ct 68 = some ofC := rfl
theorem S8_ct67 : S8.ct 67 = some nrootC := rfl
theorem S8_ct69 : S8.ct 69 = some npowC := rfl
theorem S8_ct70 : S8.ct 70 = some smallC := rfl
theorem S8_ct71 : S8.ct 71 = some orderC := rfl
theorem S8_ok : EnvOk Tryz.prog S8 := by
  refine ⟨fun f c h => ?_, fun f vf h => ?_, (fun _ _ _ h => by cases h), by kernel_rfl⟩
  · simp only [S8] at h
    split at h
    · cases h; exact ⟨rcheck_ok, Tryz.f62, Tryz.func62, by kernel_rfl, by kernel_rfl⟩
    · cases h; exact ⟨of_ok, Tryz.f68, Tryz.func68, by kernel_rfl, by kernel_rfl⟩
    · cases h; exact ⟨nroot_ok, Tryz.f67, Tryz.func67, by kernel_rfl, by kernel_rfl⟩
    · cases h; exact ⟨npow_ok, Tryz.f69, Tryz.func69, by kernel_rfl, by kernel_rfl⟩
    · cases h; exact ⟨small_ok, Tryz.f70, Tryz.func70, by kernel_rfl, by kernel_rfl⟩
    · cases h; exact ⟨order_ok, Tryz.f71, Tryz.func71, by kernel_rfl, by kernel_rfl⟩
    · cases h
  · cases h


theorem rroot_ok : rootC.ok Tryz.prog 41 := by
  refine contract Tryz.func41 v41_is S8_ok 400 rootC fun args k h => ⟨args, ?_⟩
  simp only [rootC] at h
  split at h
  · rename_i x y e
    refine ⟨by simp [leL, le], ?_⟩
    (try dsimp only [v41, S8_ct62, S8_ct68, S8_ct67, S8_ct69, S8_ct70, S8_ct71, iv1C, ofC, nrootC, npowC, smallC, orderC, natS, enc2, go_sem, Option.bind, Option.map, List.append_nil, Nat.beq, List.cons_append, List.nil_append, List.append_eq, List.map_cons, List.map_nil, ite_self, reduceIte])
    (try simp only [true_and, and_true, imp_self, implies_true, decide_eq_true_eq, decide_eq_false_iff_not, Nat.reduceAdd, Nat.reduceLeDiff, Bool.not_not, reduceCtorEq, false_imp_iff, Bool.not_eq_true', Bool.not_eq_false', Bool.false_eq_true, and_self, forall_const, ne_eq, not_false_eq_true, Nat.reduceEqDiff])
    have h : k (.tup [.agg (enc2 (rootF (x, y) e).1), .int .i64 (rootF (x, y) e).2]) [] := h
    refine ⟨fun a b => by simp [a, b], fun hb => ⟨fun h2 => by simp at h2, fun _ => ⟨fun _ => ?_, fun h2 => absurd h2 (by decide)⟩⟩, fun hb => ⟨fun hx => ⟨fun _ => ?_, fun h2 => absurd h2 (by decide)⟩, fun hx => ⟨fun he => ?_, fun he => ?_⟩⟩⟩
    · simp only [Bool.and_eq_true, Bool.or_eq_true, decide_eq_true_eq] at hb
      rw [rootF, if_neg (by omega), if_pos (by omega)] at h
      exact ans_iv (r := errI 2) h
    · simp only [Bool.and_eq_true, decide_eq_true_eq] at hx
      have hb' : ¬ (e < 1 ∨ 62 < e) := by
        intro hh
        have : (decide (ivE [(x, y)] = 0) && (decide (e < 1) || decide (62 < e))) = true := by
          simp only [Bool.and_eq_true, Bool.or_eq_true, decide_eq_true_eq]; exact ⟨hx.1, hh⟩
        rw [this] at hb; cases hb
      rw [rootF, if_neg (by omega), if_neg hb', if_pos hx.2] at h
      exact ans_iv (r := errI 9) h
    · rw [rootF, if_pos he] at h
      exact ans_iv (r := errI (ivE [(x, y)])) h
    · have hb' : ¬ (e < 1 ∨ 62 < e) := by
        intro hh
        have : (decide (ivE [(x, y)] = 0) && (decide (e < 1) || decide (62 < e))) = true := by
          simp only [Bool.and_eq_true, Bool.or_eq_true, decide_eq_true_eq]; exact ⟨he, hh⟩
        rw [this] at hb; cases hb
      have hx' : ¬ x < 0 := by
        intro hh
        have : (decide (ivE [(x, y)] = 0) && decide (x < 0)) = true := by
          simp only [Bool.and_eq_true, decide_eq_true_eq]; exact ⟨he, hh⟩
        rw [this] at hx; cases hx
      obtain ⟨h1, h2, h3⟩ := ivE1 he
      dsimp only at h1 h2 h3
      rw [rootF, if_neg (by rw [he]; simp), if_neg hb', if_neg hx'] at h
      clear hb hx
      obtain ⟨x, rfl⟩ := Int.eq_ofNat_of_zero_le (by omega : 0 ≤ x)
      obtain ⟨y, rfl⟩ := Int.eq_ofNat_of_zero_le (by omega : 0 ≤ y)
      obtain ⟨e, rfl⟩ := Int.eq_ofNat_of_zero_le (by omega : 0 ≤ e)
      simp only [IntWalk.u64_in (x : Int) (by omega), IntWalk.u64_in (y : Int) (by omega)]
      simp only [Int.toNat_natCast] at h ⊢
      have nx : nl x ≤ 2 := nl_le.2 (by omega)
      have ny : nl y ≤ 2 := nl_le.2 (by omega)
      refine ⟨⟨by omega, by omega⟩, x, e, ⟨padP_nl (by omega), rfl, rfl, by omega, by omega, by omega⟩, fun r ⟨r1, r2⟩ => ⟨by decide, by decide, ⟨by omega, by omega⟩, y, e, ⟨padP_nl (by omega), rfl, rfl, by omega, by omega, by omega⟩, fun q ⟨q1, q2⟩ => ?_⟩⟩
      have rx : rootN x e = r := rootN_eq (by omega) r1 r2
      have ry : rootN y e = q := rootN_eq (by omega) q1 q2
      have lr := root_le (by omega) r1
      have lq := root_le (by omega) q1
      have nr : nl r ≤ 2 := Nat.le_trans (nl_mono lr) nx
      have nq : nl q ≤ 2 := Nat.le_trans (nl_mono lq) ny
      have fq := root_fits (r := q) (e := e) (by omega) (by omega)
      rw [rx] at h
      unfold rootUp at h
      rw [ry] at h
      refine ⟨by decide, by decide, q, e, ⟨padP_nl (by omega), rfl, rfl, by omega, by omega, fq⟩, by decide, by decide, r, ⟨padP_nl (by omega), rfl, by omega⟩, by decide, by decide, q, ⟨padP_nl (by omega), rfl, by omega⟩, by decide, by decide, ⟨by omega, by omega⟩, q ^ e, y, ⟨padP_nl (by omega), padP_nl (by omega)⟩, ?_⟩
      have ho : ordN (q ^ e) y < 0 ↔ q ^ e < y := by
        unfold ordN
        split
        · simp; omega
        · split <;> simp <;> omega
      rw [ho]
      simp only [if_pos (show r < 18446744073709551616 by omega), if_pos (show q < 18446744073709551616 by omega)]
      rw [IntWalk.u64_in ((q : Int) + 1) (by omega), IntWalk.i64_in ((q : Int) + 1) (by omega), IntWalk.i64_in (r : Int) (by omega), IntWalk.i64_in (q : Int) (by omega)]
      refine ⟨fun hc => ?_, fun hc => ?_⟩
      · rw [if_pos hc] at h
        exact ans_iv (r := (((r : Int), ((q + 1 : Nat) : Int)), 0)) h
      · rw [if_neg hc] at h
        exact ans_iv (r := (((r : Int), (q : Int)), 0)) h
  · exact h.1.elim
end Go.Proofs.YtngccjllkgpjmaaGreat

/- Chests, walked: the reference's exported functions; the law of sizes. -/
/- Chests, walked: the reference's exported functions; the law of sizes. -/
set_option linter.all false
namespace Go.Proofs.YtngccjllkgpjmaaGreat
open Go Go.Vx
set_option maxRecDepth 100000
set_option maxHeartbeats 4000000

def v31 : VF := { ntmps := 9, res := [.tmp 2], body :=
 (.seq (.region [⟨(some 2), none, .mov, [.cn (.bool false)]⟩])
 (.seq (.region [⟨(some 3), none, .mov, [.tm 0]⟩,
  ⟨(some 4), none, (.cmp .geq), [.tm 3, .cn (.int .i64 10)]⟩,
  ⟨(some 5), none, .mov, [.tm 4]⟩,
  ⟨(some 6), (some (5, true)), .mov, [.tm 0]⟩,
  ⟨(some 7), (some (5, true)), (.cmp .leq), [.tm 6, .cn (.int .i64 5000)]⟩,
  ⟨(some 8), none, .and, [.tm 5, .tm 7]⟩,
  ⟨(some 2), none, .mov, [.tm 8]⟩])
 .ret)) }
theorem v31_is : vfunc Tryz.prog Tryz.f31 = some v31 := by kernel_rfl
def v7 : VF := { ntmps := 15, res := [.cell 2 true 2, .tmp 3], body :=
 (.seq (.region [⟨(some 1), none, .box, [.tm 0]⟩,
  ⟨(some 2), none, (.alloc [(.int .i64 0), (.int .i64 0)]), []⟩,
  ⟨(some 3), none, .mov, [.cn (.int .i64 0)]⟩])
 (.seq (.seq (.region [⟨(some 4), none, (.fieldAddr 0), [.tm 1]⟩,
  ⟨(some 5), none, (.load false 1), [.tm 4]⟩,
  ⟨(some 6), none, .len, [.tm 5]⟩,
  ⟨(some 7), none, (.cmp .gtr), [.tm 6, .cn (.int .i64 24)]⟩])
 (.cond (.tm 7) (.seq (.region [⟨(some 8), none, (.build [(.int .i64 0), (.int .i64 0)] []), []⟩,
  ⟨none, none, (.store 2), [.tm 2, .tm 8]⟩,
  ⟨(some 3), none, .mov, [.cn (.int .i64 3)]⟩])
 .ret)
  .skip))
 (.seq (.seq (.region [⟨(some 9), none, (.load true 1), [.tm 1]⟩,
  ⟨(some 10), none, (.call 23), [.tm 9]⟩,
  ⟨(some 11), none, .not, [.tm 10]⟩])
 (.cond (.tm 11) (.seq (.region [⟨(some 12), none, (.build [(.int .i64 0), (.int .i64 0)] []), []⟩,
  ⟨none, none, (.store 2), [.tm 2, .tm 12]⟩,
  ⟨(some 3), none, .mov, [.cn (.int .i64 2)]⟩])
 .ret)
  .skip))
 (.seq (.region [⟨(some 13), none, (.load true 1), [.tm 1]⟩,
  ⟨(some 14), none, (.call 24), [.tm 13]⟩,
  ⟨none, none, (.store 2), [.tm 2, .tm 14]⟩,
  ⟨(some 3), none, .mov, [.cn (.int .i64 0)]⟩])
 .ret)))) }
theorem v7_is : vfunc Tryz.prog Tryz.f7 = some v7 := by kernel_rfl
def v9 : VF := { ntmps := 9, res := [.tmp 2, .tmp 3], body :=
 (.seq (.region [⟨(some 1), none, .box, [.tm 0]⟩,
  ⟨(some 2), none, .mov, [.cn (.int .i64 0)]⟩,
  ⟨(some 3), none, .mov, [.cn (.int .i64 0)]⟩])
 (.seq (.seq (.region [⟨(some 4), none, (.load true 4), [.tm 1]⟩,
  ⟨(some 5), none, (.call 27), [.tm 4]⟩,
  ⟨(some 6), none, .not, [.tm 5]⟩])
 (.cond (.tm 6) (.seq (.region [⟨(some 2), none, .mov, [.cn (.int .i64 0)]⟩,
  ⟨(some 3), none, .mov, [.cn (.int .i64 2)]⟩])
 .ret)
  .skip))
 (.seq (.region [⟨(some 7), none, (.load true 4), [.tm 1]⟩,
  ⟨(some 8), none, (.call 28), [.tm 7]⟩,
  ⟨(some 2), none, .mov, [.tm 8]⟩,
  ⟨(some 3), none, .mov, [.cn (.int .i64 0)]⟩])
 .ret))) }
theorem v9_is : vfunc Tryz.prog Tryz.f9 = some v9 := by kernel_rfl
def v11 : VF := { ntmps := 18, res := [.cell 4 true 2, .tmp 5], body :=
 (.seq (.region [⟨(some 2), none, .box, [.tm 0]⟩,
  ⟨(some 4), none, (.alloc [(.int .i64 0), (.int .i64 0)]), []⟩,
  ⟨(some 5), none, .mov, [.cn (.int .i64 0)]⟩])
 (.seq (.seq (.region [⟨(some 6), none, (.load true 4), [.tm 2]⟩,
  ⟨(some 7), none, (.call 27), [.tm 6]⟩,
  ⟨(some 8), none, .not, [.tm 7]⟩,
  ⟨(some 9), none, .mov, [.tm 8]⟩,
  ⟨(some 10), (some (9, false)), .mov, [.tm 1]⟩,
  ⟨(some 11), (some (9, false)), (.call 31), [.tm 10]⟩,
  ⟨(some 12), (some (9, false)), .not, [.tm 11]⟩,
  ⟨(some 13), none, .or, [.tm 9, .tm 12]⟩])
 (.cond (.tm 13) (.seq (.region [⟨(some 14), none, (.build [(.int .i64 0), (.int .i64 0)] []), []⟩,
  ⟨none, none, (.store 2), [.tm 4, .tm 14]⟩,
  ⟨(some 5), none, .mov, [.cn (.int .i64 2)]⟩])
 .ret)
  .skip))
 (.seq (.region [⟨(some 15), none, (.load true 4), [.tm 2]⟩,
  ⟨(some 16), none, .mov, [.tm 1]⟩,
  ⟨(some 17), none, (.call 32), [.tm 15, .tm 16]⟩,
  ⟨none, none, (.store 2), [.tm 4, .tm 17]⟩,
  ⟨(some 5), none, .mov, [.cn (.int .i64 0)]⟩])
 .ret))) }
theorem v11_is : vfunc Tryz.prog Tryz.f11 = some v11 := by kernel_rfl
def v13 : VF := { ntmps := 47, res := [.cell 6 true 2, .tmp 7], body :=
 (.seq (.region [⟨(some 3), none, .box, [.tm 0]⟩,
  ⟨(some 6), none, (.alloc [(.int .i64 0), (.int .i64 0)]), []⟩,
  ⟨(some 7), none, .mov, [.cn (.int .i64 0)]⟩])
 (.seq (.seq (.region [⟨(some 10), none, (.load true 2), [.tm 3]⟩,
  ⟨(some 11), none, (.call 37), [.tm 10]⟩,
  ⟨(some 12), none, .not, [.tm 11]⟩,
  ⟨(some 13), none, .mov, [.tm 12]⟩,
  ⟨(some 14), (some (13, false)), .mov, [.tm 1]⟩,
  ⟨(some 15), (some (13, false)), (.call 38), [.tm 14, .cn (.int .i64 0), .cn (.int .i64 3000000)]⟩,
  ⟨(some 16), (some (13, false)), .not, [.tm 15]⟩,
  ⟨(some 17), none, .or, [.tm 13, .tm 16]⟩,
  ⟨(some 18), none, .mov, [.tm 17]⟩,
  ⟨(some 19), (some (18, false)), .mov, [.tm 2]⟩,
  ⟨(some 20), (some (18, false)), (.cmp .lss), [.tm 19, .cn (.int .i64 0)]⟩,
  ⟨(some 21), none, .or, [.tm 18, .tm 20]⟩,
  ⟨(some 22), none, .mov, [.tm 21]⟩,
  ⟨(some 23), (some (22, false)), .mov, [.tm 2]⟩,
  ⟨(some 24), (some (22, false)), (.cmp .gtr), [.tm 23, .cn (.int .i64 8)]⟩,
  ⟨(some 25), none, .or, [.tm 22, .tm 24]⟩])
 (.cond (.tm 25) (.seq (.region [⟨(some 26), none, (.build [(.int .i64 0), (.int .i64 0)] []), []⟩,
  ⟨none, none, (.store 2), [.tm 6, .tm 26]⟩,
  ⟨(some 7), none, .mov, [.cn (.int .i64 2)]⟩])
 .ret)
  .skip))
 (.seq (.region [⟨(some 28), none, (.fieldAddr 0), [.tm 3]⟩,
  ⟨(some 29), none, (.load false 1), [.tm 28]⟩,
  ⟨(some 30), none, (.fieldAddr 0), [.tm 3]⟩,
  ⟨(some 31), none, (.load false 1), [.tm 30]⟩,
  ⟨(some 32), none, (.ari .mul), [.tm 29, .tm 31]⟩,
  ⟨(some 33), none, (.call 40), [.tm 32]⟩,
  ⟨(some 34), none, .mov, [.tm 1]⟩,
  ⟨(some 35), none, .quo, [.tm 34, .cn (.int .i64 10000)]⟩,
  ⟨(some 36), none, (.ari .add), [.cn (.int .i64 1000), .tm 35]⟩,
  ⟨(some 37), none, .mov, [.tm 2]⟩,
  ⟨(some 38), none, (.ari .mul), [.cn (.int .i64 50), .tm 37]⟩,
  ⟨(some 39), none, (.ari .add), [.tm 36, .tm 38]⟩,
  ⟨(some 40), none, (.call 39), [.tm 33, .tm 39, .cn (.int .i64 1000)]⟩,
  ⟨(some 27), none, .mov, [.tm 40]⟩,
  ⟨(some 41), none, (.ext 0), [.tm 27]⟩,
  ⟨(some 42), none, (.ext 1), [.tm 27]⟩,
  ⟨(some 8), none, (.alloc [(.int .i64 0), (.int .i64 0)]), []⟩,
  ⟨none, none, (.store 2), [.tm 8, .tm 41]⟩,
  ⟨(some 9), none, .mov, [.tm 42]⟩])
 (.seq (.region [⟨(some 43), none, (.load true 2), [.tm 8]⟩,
  ⟨(some 44), none, (.call 41), [.tm 43, .cn (.int .i64 2)]⟩,
  ⟨(some 45), none, (.ext 0), [.tm 44]⟩,
  ⟨(some 46), none, (.ext 1), [.tm 44]⟩,
  ⟨none, none, (.store 2), [.tm 6, .tm 45]⟩,
  ⟨(some 7), none, .mov, [.tm 46]⟩])
 .ret)))) }
theorem v13_is : vfunc Tryz.prog Tryz.f13 = some v13 := by kernel_rfl
def v3 : VF := { ntmps := 123, res := [.tmp 6], body :=
 (.seq (.region [⟨(some 3), none, .box, [.tm 0]⟩,
  ⟨(some 4), none, .box, [.tm 1]⟩,
  ⟨(some 5), none, .box, [.tm 2]⟩,
  ⟨(some 6), none, .mov, [.cn (.bool false)]⟩])
 (.seq (.seq (.region [⟨(some 23), none, (.fieldAddr 0), [.tm 3]⟩,
  ⟨(some 24), none, (.load false 1), [.tm 23]⟩,
  ⟨(some 25), none, .len, [.tm 24]⟩,
  ⟨(some 26), none, (.cmp .gtr), [.tm 25, .cn (.int .i64 30)]⟩])
 (.cond (.tm 26) (.seq (.region [⟨(some 27), none, (.call 5), []⟩,
  ⟨(some 6), none, .mov, [.tm 27]⟩])
 .ret)
  .skip))
 (.seq (.region [⟨(some 29), none, (.load true 1), [.tm 3]⟩,
  ⟨(some 30), none, (.call 6), [.tm 29]⟩,
  ⟨(some 28), none, .mov, [.tm 30]⟩,
  ⟨(some 31), none, (.ext 0), [.tm 28]⟩,
  ⟨(some 32), none, (.ext 1), [.tm 28]⟩,
  ⟨(some 7), none, (.alloc [(.int .i64 0), (.int .i64 0)]), []⟩,
  ⟨none, none, (.store 2), [.tm 7, .tm 31]⟩,
  ⟨(some 8), none, .mov, [.tm 32]⟩])
 (.seq (.region [⟨(some 34), none, (.load true 1), [.tm 3]⟩,
  ⟨(some 35), none, (.call 7), [.tm 34]⟩,
  ⟨(some 33), none, .mov, [.tm 35]⟩,
  ⟨(some 36), none, (.ext 0), [.tm 33]⟩,
  ⟨(some 37), none, (.ext 1), [.tm 33]⟩,
  ⟨(some 9), none, (.alloc [(.int .i64 0), (.int .i64 0)]), []⟩,
  ⟨none, none, (.store 2), [.tm 9, .tm 36]⟩,
  ⟨(some 10), none, .mov, [.tm 37]⟩])
 (.seq (.region [⟨(some 39), none, (.load true 4), [.tm 4]⟩,
  ⟨(some 40), none, (.call 8), [.tm 39]⟩,
  ⟨(some 38), none, .mov, [.tm 40]⟩,
  ⟨(some 41), none, (.ext 0), [.tm 38]⟩,
  ⟨(some 42), none, (.ext 1), [.tm 38]⟩,
  ⟨(some 11), none, .mov, [.tm 41]⟩,
  ⟨(some 12), none, .mov, [.tm 42]⟩])
 (.seq (.region [⟨(some 44), none, (.load true 4), [.tm 4]⟩,
  ⟨(some 45), none, (.call 9), [.tm 44]⟩,
  ⟨(some 43), none, .mov, [.tm 45]⟩,
  ⟨(some 46), none, (.ext 0), [.tm 43]⟩,
  ⟨(some 47), none, (.ext 1), [.tm 43]⟩,
  ⟨(some 13), none, .mov, [.tm 46]⟩,
  ⟨(some 14), none, .mov, [.tm 47]⟩])
 (.seq (.region [⟨(some 49), none, (.load true 4), [.tm 4]⟩,
  ⟨(some 50), none, (.fieldAddr 4), [.tm 5]⟩,
  ⟨(some 51), none, (.load false 1), [.tm 50]⟩,
  ⟨(some 52), none, (.call 10), [.tm 49, .tm 51]⟩,
  ⟨(some 48), none, .mov, [.tm 52]⟩,
  ⟨(some 53), none, (.ext 0), [.tm 48]⟩,
  ⟨(some 54), none, (.ext 1), [.tm 48]⟩,
  ⟨(some 15), none, (.alloc [(.int .i64 0), (.int .i64 0)]), []⟩,
  ⟨none, none, (.store 2), [.tm 15, .tm 53]⟩,
  ⟨(some 16), none, .mov, [.tm 54]⟩])
 (.seq (.region [⟨(some 56), none, (.load true 4), [.tm 4]⟩,
  ⟨(some 57), none, (.fieldAddr 4), [.tm 5]⟩,
  ⟨(some 58), none, (.load false 1), [.tm 57]⟩,
  ⟨(some 59), none, (.call 11), [.tm 56, .tm 58]⟩,
  ⟨(some 55), none, .mov, [.tm 59]⟩,
  ⟨(some 60), none, (.ext 0), [.tm 55]⟩,
  ⟨(some 61), none, (.ext 1), [.tm 55]⟩,
  ⟨(some 17), none, (.alloc [(.int .i64 0), (.int .i64 0)]), []⟩,
  ⟨none, none, (.store 2), [.tm 17, .tm 60]⟩,
  ⟨(some 18), none, .mov, [.tm 61]⟩])
 (.seq (.region [⟨(some 63), none, (.fieldAddr 0), [.tm 5]⟩,
  ⟨(some 64), none, (.load true 2), [.tm 63]⟩,
  ⟨(some 65), none, (.fieldAddr 2), [.tm 5]⟩,
  ⟨(some 66), none, (.load false 1), [.tm 65]⟩,
  ⟨(some 67), none, (.fieldAddr 3), [.tm 5]⟩,
  ⟨(some 68), none, (.load false 1), [.tm 67]⟩,
  ⟨(some 69), none, (.call 12), [.tm 64, .tm 66, .tm 68]⟩,
  ⟨(some 62), none, .mov, [.tm 69]⟩,
  ⟨(some 70), none, (.ext 0), [.tm 62]⟩,
  ⟨(some 71), none, (.ext 1), [.tm 62]⟩,
  ⟨(some 19), none, (.alloc [(.int .i64 0), (.int .i64 0)]), []⟩,
  ⟨none, none, (.store 2), [.tm 19, .tm 70]⟩,
  ⟨(some 20), none, .mov, [.tm 71]⟩])
 (.seq (.region [⟨(some 73), none, (.fieldAddr 0), [.tm 5]⟩,
  ⟨(some 74), none, (.load true 2), [.tm 73]⟩,
  ⟨(some 75), none, (.fieldAddr 2), [.tm 5]⟩,
  ⟨(some 76), none, (.load false 1), [.tm 75]⟩,
  ⟨(some 77), none, (.fieldAddr 3), [.tm 5]⟩,
  ⟨(some 78), none, (.load false 1), [.tm 77]⟩,
  ⟨(some 79), none, (.call 13), [.tm 74, .tm 76, .tm 78]⟩,
  ⟨(some 72), none, .mov, [.tm 79]⟩,
  ⟨(some 80), none, (.ext 0), [.tm 72]⟩,
  ⟨(some 81), none, (.ext 1), [.tm 72]⟩,
  ⟨(some 21), none, (.alloc [(.int .i64 0), (.int .i64 0)]), []⟩,
  ⟨none, none, (.store 2), [.tm 21, .tm 80]⟩,
  ⟨(some 22), none, .mov, [.tm 81]⟩])
 (.seq (.region [⟨(some 82), none, (.load true 2), [.tm 7]⟩,
  ⟨(some 83), none, (.load true 2), [.tm 9]⟩,
  ⟨(some 84), none, (.eqv false [true, true]), [.tm 82, .tm 83]⟩,
  ⟨(some 85), none, .mov, [.tm 84]⟩,
  ⟨(some 86), (some (85, true)), .mov, [.tm 8]⟩,
  ⟨(some 87), (some (85, true)), .mov, [.tm 10]⟩,
  ⟨(some 88), (some (85, true)), (.cmp .eql), [.tm 86, .tm 87]⟩,
  ⟨(some 89), none, .and, [.tm 85, .tm 88]⟩,
  ⟨(some 90), none, .mov, [.tm 89]⟩,
  ⟨(some 91), (some (90, true)), .mov, [.tm 11]⟩,
  ⟨(some 92), (some (90, true)), .mov, [.tm 13]⟩,
  ⟨(some 93), (some (90, true)), (.cmp .eql), [.tm 91, .tm 92]⟩,
  ⟨(some 94), none, .and, [.tm 90, .tm 93]⟩,
  ⟨(some 95), none, .mov, [.tm 94]⟩,
  ⟨(some 96), (some (95, true)), .mov, [.tm 12]⟩,
  ⟨(some 97), (some (95, true)), .mov, [.tm 14]⟩,
  ⟨(some 98), (some (95, true)), (.cmp .eql), [.tm 96, .tm 97]⟩,
  ⟨(some 99), none, .and, [.tm 95, .tm 98]⟩,
  ⟨(some 100), none, .mov, [.tm 99]⟩,
  ⟨(some 101), (some (100, true)), (.load true 2), [.tm 15]⟩,
  ⟨(some 102), (some (100, true)), (.load true 2), [.tm 17]⟩,
  ⟨(some 103), (some (100, true)), (.eqv false [true, true]), [.tm 101, .tm 102]⟩,
  ⟨(some 104), none, .and, [.tm 100, .tm 103]⟩,
  ⟨(some 105), none, .mov, [.tm 104]⟩,
  ⟨(some 106), (some (105, true)), .mov, [.tm 16]⟩,
  ⟨(some 107), (some (105, true)), .mov, [.tm 18]⟩,
  ⟨(some 108), (some (105, true)), (.cmp .eql), [.tm 106, .tm 107]⟩,
  ⟨(some 109), none, .and, [.tm 105, .tm 108]⟩,
  ⟨(some 110), none, .mov, [.tm 109]⟩,
  ⟨(some 111), (some (110, true)), (.load true 2), [.tm 19]⟩,
  ⟨(some 112), (some (110, true)), (.load true 2), [.tm 21]⟩,
  ⟨(some 113), (some (110, true)), (.eqv false [true, true]), [.tm 111, .tm 112]⟩,
  ⟨(some 114), none, .and, [.tm 110, .tm 113]⟩,
  ⟨(some 115), none, .mov, [.tm 114]⟩,
  ⟨(some 116), (some (115, true)), .mov, [.tm 20]⟩,
  ⟨(some 117), (some (115, true)), .mov, [.tm 22]⟩,
  ⟨(some 118), (some (115, true)), (.cmp .eql), [.tm 116, .tm 117]⟩,
  ⟨(some 119), none, .and, [.tm 115, .tm 118]⟩,
  ⟨(some 120), none, .mov, [.tm 119]⟩,
  ⟨(some 121), (some (120, true)), (.call 5), []⟩,
  ⟨(some 122), none, .and, [.tm 120, .tm 121]⟩,
  ⟨(some 6), none, .mov, [.tm 122]⟩])
 .ret))))))))))) }
theorem v3_is : vfunc Tryz.prog Tryz.f3 = some v3 := by kernel_rfl


def preC : Ctr := { alias := false, of := fun l => match l with
  | [.int .i64 n] => .fin (.bool (!outN n 10 5000)) []
  | _ => noC }
def BZ0 : Env := { ct := fun _ => none, fn := fun _ => none, meth := fun _ _ => none }
theorem BZ0_ok : EnvOk Tryz.prog BZ0 := by
  refine ⟨fun f c h => ?_, fun f vf h => ?_, (fun _ _ _ h => by cases h), by kernel_rfl⟩
  · cases h
  · cases h

theorem pre_ok : preC.ok Tryz.prog 31 := by
  refine contract Tryz.func31 v31_is BZ0_ok 100 preC fun args k h => ⟨args, ?_⟩
  simp only [preC] at h
  split at h
  · refine ⟨by simp [leL, le], ?_⟩
    dsimp only [v31, go_sem, Option.bind, Option.map, List.append_nil, Nat.beq, List.cons_append, List.nil_append, List.append_eq, List.map_cons, List.map_nil, ite_self, reduceIte]
    simp only [true_and, and_true, imp_self, implies_true, decide_eq_true_eq, decide_eq_false_iff_not, Nat.reduceAdd, Nat.reduceLeDiff, Bool.not_not, reduceCtorEq, false_imp_iff, Bool.not_eq_true', Bool.not_eq_false', Bool.false_eq_true, and_self, forall_const, ne_eq, not_false_eq_true, Nat.reduceEqDiff]
    have h : k _ [] := h
    rw [nout] at h
    exact ans_bool h
  · exact h.1.elim
def BZ1 : Env := { ct := fun n => match n with | 31 => some preC | 37 => some rtoeC | 27 => some rpalC | 38 => some frmC | 23 => some toesC | 24 => some areaC | 28 => some openC | 32 => some forceC | 40 => some oneC | 39 => some sclC | 41 => some rootC | _ => none, fn := fun _ => none, meth := fun _ _ => none }
theorem BZ1_ct31 : BZ1.ct 31 = some preC := rfl
theorem BZ1_ct37 : BZ1.ct 37 = some rtoeC := rfl
theorem BZ1_ct27 : BZ1.ct 27 = some rpalC := rfl
theorem BZ1_ct38 : BZ1.ct 38 = some frmC := rfl
theorem BZ1_ct23 : BZ1.ct 23 = some toesC := rfl
theorem BZ1_ct24 : BZ1.ct 24 = some areaC := rfl
theorem BZ1_ct28 : BZ1.ct 28 = some openC := rfl
theorem BZ1_ct32 : BZ1.ct 32 = some forceC := rfl
theorem BZ1_ct40 : BZ1.ct 40 = some oneC := rfl
theorem BZ1_ct39 : BZ1.ct 39 = some sclC := rfl
theorem BZ1_ct41 : BZ1.ct 41 = some rootC := rfl
theorem BZ1_ok : EnvOk Tryz.prog BZ1 := by
  refine ⟨fun f c h => ?_, fun f vf h => ?_, (fun _ _ _ h => by cases h), by kernel_rfl⟩
  · simp only [BZ1] at h
    split at h
    · cases h; exact ⟨pre_ok, Tryz.f31, Tryz.func31, by kernel_rfl, by kernel_rfl⟩
    · cases h; exact ⟨rtoe_ok, Tryz.f37, Tryz.func37, by kernel_rfl, by kernel_rfl⟩
    · cases h; exact ⟨rpal_ok, Tryz.f27, Tryz.func27, by kernel_rfl, by kernel_rfl⟩
    · cases h; exact ⟨frm_ok, Tryz.f38, Tryz.func38, by kernel_rfl, by kernel_rfl⟩
    · cases h; exact ⟨toes_ok, Tryz.f23, Tryz.func23, by kernel_rfl, by kernel_rfl⟩
    · cases h; exact ⟨rarea_ok, Tryz.f24, Tryz.func24, by kernel_rfl, by kernel_rfl⟩
    · cases h; exact ⟨ropen_ok, Tryz.f28, Tryz.func28, by kernel_rfl, by kernel_rfl⟩
    · cases h; exact ⟨rforce_ok, Tryz.f32, Tryz.func32, by kernel_rfl, by kernel_rfl⟩
    · cases h; exact ⟨rone_ok, Tryz.f40, Tryz.func40, by kernel_rfl, by kernel_rfl⟩
    · cases h; exact ⟨rscl_ok, Tryz.f39, Tryz.func39, by kernel_rfl, by kernel_rfl⟩
    · cases h; exact ⟨rroot_ok, Tryz.f41, Tryz.func41, by kernel_rfl, by kernel_rfl⟩
    · cases h
  · cases h

theorem rAr_ok : ArC.ok Tryz.prog 7 := by
  refine contract Tryz.func7 v7_is BZ1_ok 200 ArC fun args k h => ?_
  simp only [ArC] at h
  split at h
  · rename_i t z n sz get
    obtain ⟨l, ⟨⟨rfl, rfl, hg⟩, hl⟩, h⟩ := h
    refine ⟨[.agg [.vs t z l.length 2 (fun k => enc2 (l.getD k default))]], ⟨by simpa [le, leL] using hg, trivial⟩, ?_⟩
    have h : k (.tup [.agg (enc2 (aF l).1), .int .i64 (aF l).2]) [] := h
    dsimp only [v7, BZ1_ct23, BZ1_ct24, toesC, areaC, enc2, go_sem, Option.bind, Option.map, List.append_nil, Nat.beq, List.cons_append, List.nil_append, List.append_eq, List.map_cons, List.map_nil, ite_self, reduceIte]
    simp only [true_and, and_true, imp_self, implies_true, decide_eq_true_eq, decide_eq_false_iff_not, Nat.reduceAdd, Nat.reduceLeDiff, Bool.not_not, reduceCtorEq, false_imp_iff, Bool.not_eq_true', Bool.not_eq_false', Bool.false_eq_true, and_self, forall_const, ne_eq, not_false_eq_true, Nat.reduceEqDiff]
    unfold aF chkT at h
    refine ⟨fun hc => ?_, fun hc => ⟨l, ⟨lsP_self, by omega⟩, fun hd => ?_, fun hd => ⟨l, ⟨lsP_self, by omega, any_f hd⟩, ?_⟩⟩⟩
    · rw [if_pos (show 24 < l.length by omega), if_pos (by decide)] at h
      exact ans_iv (r := ((0, 0), 3)) h
    · rw [if_neg (show ¬ 24 < l.length by omega), if_pos hd, if_pos (by decide)] at h
      exact ans_iv (r := ((0, 0), 2)) h
    · rw [if_neg (show ¬ 24 < l.length by omega), if_neg (by rw [hd]; simp)] at h
      exact ans_iv (r := (areaF l, 0)) h
  · exact h.1.elim
theorem rOp_ok : OpC.ok Tryz.prog 9 := by
  refine contract Tryz.func9 v9_is BZ1_ok 200 OpC fun args k h => ⟨args, ?_⟩
  simp only [OpC] at h
  split at h
  · rename_i w l t s
    refine ⟨by simp [leL, le], ?_⟩
    have h : k (.tup [.int .i64 (oF ⟨w, l, t, s⟩).1, .int .i64 (oF ⟨w, l, t, s⟩).2]) [] := h
    dsimp only [v9, BZ1_ct27, BZ1_ct28, rpalC, openC, go_sem, Option.bind, Option.map, List.append_nil, Nat.beq, List.cons_append, List.nil_append, List.append_eq, List.map_cons, List.map_nil, ite_self, reduceIte]
    simp only [true_and, and_true, imp_self, implies_true, decide_eq_true_eq, decide_eq_false_iff_not, Nat.reduceAdd, Nat.reduceLeDiff, Bool.not_not, reduceCtorEq, false_imp_iff, Bool.not_eq_true', Bool.not_eq_false', Bool.false_eq_true, and_self, forall_const, ne_eq, not_false_eq_true, Nat.reduceEqDiff]
    refine ⟨fun hc => ?_, fun hc => ⟨hc, ?_⟩⟩
    · rw [oF, if_pos hc] at h; exact ans_ii h
    · rw [oF, if_neg (by rw [hc]; simp)] at h; exact ans_ii h
  · exact h.1.elim
theorem rFo_ok : FoC.ok Tryz.prog 11 := by
  refine contract Tryz.func11 v11_is BZ1_ok 200 FoC fun args k h => ⟨args, ?_⟩
  simp only [FoC] at h
  split at h
  · rename_i w l t s pr
    refine ⟨by simp [leL, le], ?_⟩
    have h : k (.tup [.agg (enc2 (fF ⟨w, l, t, s⟩ pr).1), .int .i64 (fF ⟨w, l, t, s⟩ pr).2]) [] := h
    dsimp only [v11, BZ1_ct27, BZ1_ct31, BZ1_ct32, rpalC, preC, forceC, forC, enc2, go_sem, Option.bind, Option.map, List.append_nil, Nat.beq, List.cons_append, List.nil_append, List.append_eq, List.map_cons, List.map_nil, ite_self, reduceIte]
    simp only [true_and, and_true, imp_self, implies_true, decide_eq_true_eq, decide_eq_false_iff_not, Nat.reduceAdd, Nat.reduceLeDiff, Bool.not_not, reduceCtorEq, false_imp_iff, Bool.not_eq_true', Bool.not_eq_false', Bool.false_eq_true, and_self, forall_const, ne_eq, not_false_eq_true, Nat.reduceEqDiff]
    refine ⟨fun hc => ?_, fun hc => ⟨?_, ?_⟩⟩
    · rw [fF, if_pos hc] at h; exact ans_iv (r := ((0, 0), 2)) h
    · rw [Bool.or_eq_false_iff, outN_f] at hc; exact hc
    · rw [fF, if_neg (by rw [hc]; simp)] at h; exact ans_iv (r := (forceF ⟨w, l, t, s⟩ pr, 0)) h
  · exact h.1.elim
theorem rTu_ok : TuC.ok Tryz.prog 13 := by
  refine contract Tryz.func13 v13_is BZ1_ok 200 TuC fun args k h => ⟨args, ?_⟩
  simp only [TuC] at h
  split at h
  · rename_i x y len b
    refine ⟨by simp [leL, le], ?_⟩
    have h : k (.tup [.agg (enc2 (tF (x, y) len b).1), .int .i64 (tF (x, y) len b).2]) [] := h
    dsimp only [v13, BZ1_ct37, BZ1_ct38, BZ1_ct40, BZ1_ct39, BZ1_ct41, rtoeC, frmC, oneC, sclC, rootC, enc2, go_sem, Option.bind, Option.map, List.append_nil, Nat.beq, List.cons_append, List.nil_append, List.append_eq, List.map_cons, List.map_nil, ite_self, reduceIte]
    simp only [true_and, and_true, imp_self, implies_true, decide_eq_true_eq, decide_eq_false_iff_not, Nat.reduceAdd, Nat.reduceLeDiff, Bool.not_not, reduceCtorEq, false_imp_iff, Bool.not_eq_true', Bool.not_eq_false', Bool.false_eq_true, and_self, forall_const, ne_eq, not_false_eq_true, Nat.reduceEqDiff]
    have h40 : ∀ hc : (toeB (x, y) || outN len 0 3000000 || decide (b < 0) || decide (8 < b)) = false, (100 ≤ x ∧ x ≤ 100000) ∧ (0 ≤ len ∧ len ≤ 3000000) ∧ 0 ≤ b ∧ b ≤ 8 := fun hc => by
      rw [Bool.or_eq_false_iff, Bool.or_eq_false_iff, Bool.or_eq_false_iff, outN_f, decide_eq_false_iff_not, decide_eq_false_iff_not] at hc
      obtain ⟨⟨⟨h1, h2⟩, h3⟩, h4⟩ := hc
      have := toe_rng h1
      dsimp only at this
      omega
    refine ⟨fun hc => ?_, fun hc => ⟨by decide, by decide, by decide, by decide, by decide, ?_⟩⟩
    · rw [tF, if_pos hc] at h; exact ans_iv (r := ((0, 0), 2)) h
    · rw [tF, if_neg (by rw [hc]; simp)] at h
      obtain ⟨⟨h1, h2⟩, ⟨h3, h4⟩, h5, h6⟩ := h40 hc
      have m1 : x * x ≤ 100000 * 100000 := mul_le' h2 h2 (by omega) (by omega)
      have m2 : 0 ≤ x * x := Int.mul_nonneg (by omega) (by omega)
      have e1 : len.tdiv 10000 = len / 10000 := Int.tdiv_eq_ediv_of_nonneg h3
      rw [e1, w6_raw (x := x * x) (by omega) (by omega), w6_raw (x := len / 10000) (by omega) (by omega), w6_raw (x := 1000 + len / 10000) (by omega) (by omega), w6_raw (x := 50 * b) (by omega) (by omega), w6_raw (x := _ + 50 * b) (by omega) (by omega)]
      exact ans_iv (r := rootF (tubS (x, y) len b) 2) h
  · exact h.1.elim

def shX5 : List Sh := [.int .i64, .int .i64, .int .i64, .int .i64, .int .i64]
theorem x5_of {c : List SV} (h : okSL shX5 c) : ∃ x y len b pr : Int, c = [.int .i64 x, .int .i64 y, .int .i64 len, .int .i64 b, .int .i64 pr] := by
  obtain ⟨_, _, rfl, ⟨n1, rfl, _⟩, e1⟩ := okSL_cons_inv h
  obtain ⟨_, _, rfl, ⟨n2, rfl, _⟩, e2⟩ := okSL_cons_inv e1
  obtain ⟨_, _, rfl, ⟨n3, rfl, h3⟩, e3⟩ := okSL_cons_inv e2
  obtain ⟨_, _, rfl, ⟨n4, rfl, h4⟩, e4⟩ := okSL_cons_inv e3
  obtain ⟨_, _, rfl, ⟨n5, rfl, _⟩, e5⟩ := okSL_cons_inv e4
  cases okSL_nil_inv e5
  exact ⟨n1, n2, n3, n4, n5, rfl⟩
def BZ2 : Env := { ct := fun n => match n with | 5 => some trueC | 6 => some ArC | 8 => some OpC | 10 => some FoC | 12 => some TuC | 7 => some ArC | 9 => some OpC | 11 => some FoC | 13 => some TuC | _ => none, fn := fun _ => none, meth := fun _ _ => none }
theorem BZ2_ct5 : BZ2.ct 5 = some trueC := rfl
theorem BZ2_ct6 : BZ2.ct 6 = some ArC := rfl
theorem BZ2_ct8 : BZ2.ct 8 = some OpC := rfl
theorem BZ2_ct10 : BZ2.ct 10 = some FoC := rfl
theorem BZ2_ct12 : BZ2.ct 12 = some TuC := rfl
theorem BZ2_ct7 : BZ2.ct 7 = some ArC := rfl
theorem BZ2_ct9 : BZ2.ct 9 = some OpC := rfl
theorem BZ2_ct11 : BZ2.ct 11 = some FoC := rfl
theorem BZ2_ct13 : BZ2.ct 13 = some TuC := rfl
theorem BZ2_ok : EnvOk Tryz.prog BZ2 := by
  refine ⟨fun f c h => ?_, fun f vf h => ?_, (fun _ _ _ h => by cases h), by kernel_rfl⟩
  · simp only [BZ2] at h
    split at h
    · cases h; exact ⟨awake_ok, Tryz.f5, Tryz.func5, by kernel_rfl, by kernel_rfl⟩
    · cases h; exact ⟨Ar_ok, Tryz.f6, Tryz.func6, by kernel_rfl, by kernel_rfl⟩
    · cases h; exact ⟨Op_ok, Tryz.f8, Tryz.func8, by kernel_rfl, by kernel_rfl⟩
    · cases h; exact ⟨Fo_ok, Tryz.f10, Tryz.func10, by kernel_rfl, by kernel_rfl⟩
    · cases h; exact ⟨Tu_ok, Tryz.f12, Tryz.func12, by kernel_rfl, by kernel_rfl⟩
    · cases h; exact ⟨rAr_ok, Tryz.f7, Tryz.func7, by kernel_rfl, by kernel_rfl⟩
    · cases h; exact ⟨rOp_ok, Tryz.f9, Tryz.func9, by kernel_rfl, by kernel_rfl⟩
    · cases h; exact ⟨rFo_ok, Tryz.f11, Tryz.func11, by kernel_rfl, by kernel_rfl⟩
    · cases h; exact ⟨rTu_ok, Tryz.f13, Tryz.func13, by kernel_rfl, by kernel_rfl⟩
    · cases h
  · cases h

def lawZ : List PSh := [⟨true, shC⟩, ⟨true, shP⟩, ⟨true, shX5⟩]
theorem lawSizes : (lawC lawZ).ok Tryz.prog 3 := by
  refine contract Tryz.func3 v3_is BZ2_ok 400 (lawC lawZ) fun args k h => ?_
  obtain ⟨ha, hk⟩ := h
  obtain ⟨_, _, rfl, h1, e1⟩ := okPL_cons_inv ha
  obtain ⟨cs, rfl, hcs⟩ := okP_agg_inv h1
  obtain ⟨_, _, rfl, h2, e2⟩ := okPL_cons_inv e1
  obtain ⟨ps, rfl, hps⟩ := okP_agg_inv h2
  obtain ⟨_, _, rfl, h3, e3⟩ := okPL_cons_inv e2
  obtain ⟨xs, rfl, hxs⟩ := okP_agg_inv h3
  cases okPL_nil_inv e3
  obtain ⟨z, c, hcl, hce⟩ := c_of hcs
  obtain ⟨p, rfl⟩ := p_of hps
  obtain ⟨x, y, len, b, pr, rfl⟩ := x5_of hxs
  rw [maxLen_eq] at hcl
  refine ⟨[.agg [.vs false z c.length 2 (fun k => enc2 (c.getD k default))], .agg (encP p), .agg [.int .i64 x, .int .i64 y, .int .i64 len, .int .i64 b, .int .i64 pr]], ⟨leXL_le _ _ hce (by simp [bndL, bnd]), le_self (.agg (encP p)) ⟨trivial, trivial, trivial, trivial, trivial⟩, le_self (.agg [.int .i64 x, .int .i64 y, .int .i64 len, .int .i64 b, .int .i64 pr]) ⟨trivial, trivial, trivial, trivial, trivial, trivial⟩, trivial⟩, ?_⟩
  dsimp only [v3, BZ2_ct5, BZ2_ct6, BZ2_ct8, BZ2_ct10, BZ2_ct12, BZ2_ct7, BZ2_ct9, BZ2_ct11, BZ2_ct13, trueC, ArC, OpC, FoC, TuC, enc2, encP, go_sem, Option.bind, Option.map, List.append_nil, Nat.beq, List.cons_append, List.nil_append, List.append_eq, List.map_cons, List.map_nil, ite_self, reduceIte]
  simp only [true_and, and_true, imp_self, implies_true, decide_eq_true_eq, decide_eq_false_iff_not, Nat.reduceAdd, Nat.reduceLeDiff, Bool.not_not, reduceCtorEq, false_imp_iff, Bool.not_eq_true', Bool.not_eq_false', Bool.false_eq_true, and_self, forall_const, ne_eq, not_false_eq_true, Nat.reduceEqDiff, plt_eta]
  have hk' : k (.bool true) [] := hk
  refine ⟨fun _ => ans_bool hk', fun hf => ?_⟩
  refine ⟨c, ⟨lsP_self, by omega⟩, by decide, by decide, c, ⟨lsP_self, by omega⟩, by decide, by decide, by decide, by decide, by decide, by decide, by decide, by decide, by decide, by decide, by decide, by decide, by decide, by decide, ?_⟩
  simp only [decide_true, Bool.and_true, Bool.and_self]
  exact ans_bool hk'
end Go.Proofs.YtngccjllkgpjmaaGreat

/- Laws, as they are given, without a condition. -/
/- Laws, as they are given, without a condition. -/
set_option linter.all false
namespace Go.Proofs.YtngccjllkgpjmaaGreat
open Go Go.Vx Go.RowKit
set_option maxRecDepth 100000

theorem ownX3 : ownKnob Tryz.prog.godebug = none := by kernel_rfl
theorem laidX3 : laidOutB Tryz.prog = true := by kernel_rfl

theorem chestsSizes_lifted (os : Os) (started : os.Started) (H : Type) (enc : TypeId × Value → H) :
    ReturnsInHanded {} Tryz.checked os 3 .any (Rows.chestsSizesSpec.pre6 enc Tryz.prog Tryz.f3 Rows.chestsSizesRow.domain false) (Rows.chestsSizesSpec.post enc Tryz.prog Tryz.f3 false true false false) :=
  law_lifted (C := Tryz.checked) (tb := 4) ownX3 started (by kernel_rfl) Tryz.func3 laidX3
    (ChangeSpec.witness6 (enc := enc) (C := Tryz.checked) false ⟨#[], #[.agg #[.slice none 0 0], .agg #[.int .i64 0, .int .i64 0, .int .i64 0, .int .i64 0], .agg #[.int .i64 0, .int .i64 0, .int .i64 0, .int .i64 0, .int .i64 0]], []⟩ 8 (by kernel_rfl) (by kernel_rfl) (by kernel_rfl) (by kernel_rfl))
    (by kernel_rfl) (by kernel_rfl) (by kernel_rfl) (by kernel_rfl) rfl (fun ds h => match ds, h with | [_, _, _], _ => ⟨rfl, rfl, rfl⟩) lawSizes

theorem chestsSizes_holds : Rows.ChestsSizesSaid :=
  OpenClaim.holds_of_wide 3 Tryz.f3 rfl rfl rfl rfl rfl rfl rfl ⟨rfl, rfl, rfl, rfl, rfl⟩ rfl rfl rfl rfl rfl (by kernel_rfl) Tryz.func3 (by kernel_rfl)
    (of_decide_eq_true (by kernel_rfl)) (by unfold Func.isWrapper; first | (rw [if_pos (by decide +kernel)]; kernel_rfl) | (rw [if_neg (by decide +kernel)]; exact ⟨rfl, rfl⟩))
    (fun os started H enc _ => chestsSizes_lifted os started H enc)

end Go.Proofs.YtngccjllkgpjmaaGreat

