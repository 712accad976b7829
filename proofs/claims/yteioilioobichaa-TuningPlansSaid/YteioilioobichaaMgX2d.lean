/- Tuning, walked: names, sets, halls, works. -/
import Derived.Test.YteioilioobichaaProg
import Derived.Test.YteioilioobichaaMgX2c
/- Tuning, walked: names, sets, halls, works. -/
set_option linter.all false
namespace Go.Proofs.Yteioilioobichaa
open Go Go.Vx
set_option maxRecDepth 100000
set_option maxHeartbeats 4000000

def v25 : VF := { ntmps := 15, res := [.tmp 6], body :=
 (.seq (.region [u1 6 .mov [.cn (.bool false)]])
 (.seq (.region [u1 7 .mov [.tm 0],
 u1 8 .mov [.tm 1],
 u1 9 (.cmp .geq) [.tm 7, .tm 8],
 u1 10 .mov [.tm 9],
 u2 11 10 true .mov [.tm 0],
 u2 12 10 true .mov [.tm 2],
 u2 13 10 true (.cmp .leq) [.tm 11, .tm 12],
 u1 14 .and [.tm 10, .tm 13],
 u1 6 .mov [.tm 14]])
 .ret)) }
theorem v25_is : vfunc Try.prog Try.f25 = some v25 := by kernel_rfl
def v39 : VF := { ntmps := 11, res := [.tmp 2], body :=
 (.seq (.region [u1 2 .mov [.cn (.bool false)]])
 (.seq (.region [u1 3 .mov [.tm 0],
 u1 4 (.bit .or) [.tm 3, .cn (.int .u8 32)],
 u1 5 (.cmp .geq) [.tm 4, .cn (.int .u8 97)],
 u1 6 .mov [.tm 5],
 u2 7 6 true .mov [.tm 0],
 u2 8 6 true (.bit .or) [.tm 7, .cn (.int .u8 32)],
 u2 9 6 true (.cmp .leq) [.tm 8, .cn (.int .u8 122)],
 u1 10 .and [.tm 6, .tm 9],
 u1 2 .mov [.tm 10]])
 .ret)) }
theorem v39_is : vfunc Try.prog Try.f39 = some v39 := by kernel_rfl
def v40 : VF := { ntmps := 9, res := [.tmp 2], body :=
 (.seq (.region [u1 2 .mov [.cn (.bool false)]])
 (.seq (.region [u1 3 .mov [.tm 0],
 u1 4 (.cmp .geq) [.tm 3, .cn (.int .u8 48)],
 u1 5 .mov [.tm 4],
 u2 6 5 true .mov [.tm 0],
 u2 7 5 true (.cmp .leq) [.tm 6, .cn (.int .u8 57)],
 u1 8 .and [.tm 5, .tm 7],
 u1 2 .mov [.tm 8]])
 .ret)) }
theorem v40_is : vfunc Try.prog Try.f40 = some v40 := by kernel_rfl
def v41 : VF := { ntmps := 17, res := [.tmp 2], body :=
 (.seq (.region [u1 2 .mov [.cn (.bool false)]])
 (.seq (.region [u1 3 .mov [.tm 0],
 u1 4 (.cmp .geq) [.tm 3, .cn (.int .u8 97)],
 u1 5 .mov [.tm 4],
 u2 6 5 true .mov [.tm 0],
 u2 7 5 true (.cmp .leq) [.tm 6, .cn (.int .u8 122)],
 u1 8 .and [.tm 5, .tm 7],
 u1 9 .mov [.tm 8],
 u2 10 9 false .mov [.tm 0],
 u2 11 9 false (.cmp .geq) [.tm 10, .cn (.int .u8 65)],
 u2 12 9 false .mov [.tm 11],
 u2 13 12 true .mov [.tm 0],
 u2 14 12 true (.cmp .leq) [.tm 13, .cn (.int .u8 90)],
 u2 15 9 false .and [.tm 12, .tm 14],
 u1 16 .or [.tm 9, .tm 15],
 u1 2 .mov [.tm 16]])
 .ret)) }
theorem v41_is : vfunc Try.prog Try.f41 = some v41 := by kernel_rfl
def v42 : VF := { ntmps := 9, res := [.tmp 2], body :=
 (.seq (.region [u1 2 .mov [.cn (.bool false)]])
 (.seq (.region [u1 3 .mov [.tm 0],
 u1 4 (.cmp .geq) [.tm 3, .cn (.int .u8 48)],
 u1 5 .mov [.tm 4],
 u2 6 5 true .mov [.tm 0],
 u2 7 5 true (.cmp .leq) [.tm 6, .cn (.int .u8 57)],
 u1 8 .and [.tm 5, .tm 7],
 u1 2 .mov [.tm 8]])
 .ret)) }
theorem v42_is : vfunc Try.prog Try.f42 = some v42 := by kernel_rfl
def v35 : VF := { ntmps := 38, res := [.tmp 2], body :=
 (.seq (.region [u1 2 .mov [.cn (.bool false)]])
 (.seq (.seq (.region [u1 5 .mov [.tm 0],
 u1 6 .lenStr [.tm 5],
 u1 7 .mov [.cn (.int .i64 0)]])
 (.block 0 (.loop (.seq (.region [u1 8 (.cmp .lss) [.tm 7, .tm 6]])
 (.seq (.cond (.tm 8) .skip
  (.exit 0))
 (.seq (.block 1 (.seq (.region [u1 9 .mov [.tm 7],
 u1 3 .mov [.tm 9]])
 (.seq (.region [u1 10 .mov [.tm 0],
 u1 11 .mov [.tm 3],
 u1 12 .idxStr [.tm 10, .tm 11],
 u1 4 .mov [.tm 12]])
 (.seq (.region [u1 13 .mov [.tm 4],
 u1 14 (.call 39) [.tm 13],
 u1 15 .not [.tm 14],
 u1 16 .mov [.tm 15],
 u2 17 16 true .mov [.tm 3],
 u2 18 16 true (.cmp .eql) [.tm 17, .cn (.int .i64 0)],
 u2 19 16 true .mov [.tm 18],
 u2 20 19 false .mov [.tm 4],
 u2 21 19 false (.cmp .neq) [.tm 20, .cn (.int .u8 95)],
 u2 22 19 false .mov [.tm 21],
 u2 23 22 true .mov [.tm 4],
 u2 24 22 true (.call 40) [.tm 23],
 u2 25 22 true .not [.tm 24],
 u2 26 19 false .and [.tm 22, .tm 25],
 u2 27 16 true .or [.tm 19, .tm 26],
 u1 28 .and [.tm 16, .tm 27]])
 (.cond (.tm 28) (.seq (.region [u1 2 .mov [.cn (.bool false)]])
 .ret)
  .skip)))))
 (.region [u1 29 (.ari .add) [.tm 7, .cn (.int .i64 1)],
 u1 7 .mov [.tm 29]])))))))
 (.seq (.region [u1 30 .mov [.tm 0],
 u1 31 .lenStr [.tm 30],
 u1 32 (.cmp .geq) [.tm 31, .cn (.int .i64 1)],
 u1 33 .mov [.tm 32],
 u2 34 33 true .mov [.tm 0],
 u2 35 33 true .lenStr [.tm 34],
 u2 36 33 true (.cmp .leq) [.tm 35, .cn (.int .i64 16)],
 u1 37 .and [.tm 33, .tm 36],
 u1 2 .mov [.tm 37]])
 .ret))) }
theorem v35_is : vfunc Try.prog Try.f35 = some v35 := by kernel_rfl
def v36 : VF := { ntmps := 42, res := [.tmp 2], body :=
 (.seq (.region [u1 2 .mov [.cn (.bool false)]])
 (.seq (.seq (.region [u1 4 .mov [.tm 0],
 u1 5 .lenStr [.tm 4],
 u1 6 (.cmp .lss) [.tm 5, .cn (.int .i64 1)],
 u1 7 .mov [.tm 6],
 u2 8 7 false .mov [.tm 0],
 u2 9 7 false .lenStr [.tm 8],
 u2 10 7 false (.cmp .gtr) [.tm 9, .cn (.int .i64 16)],
 u1 11 .or [.tm 7, .tm 10],
 u1 12 .mov [.tm 11],
 u2 13 12 false .mov [.tm 0],
 u2 14 12 false .idxStr [.tm 13, .cn (.int .i64 0)],
 u2 15 12 false (.call 41) [.tm 14],
 u2 16 12 false .not [.tm 15],
 u1 17 .or [.tm 12, .tm 16]])
 (.cond (.tm 17) (.seq (.region [u1 2 .mov [.cn (.bool false)]])
 .ret)
  .skip))
 (.seq (.seq (.region [u1 3 .mov [.cn (.int .i64 0)]])
 (.block 0 (.loop (.seq (.seq (.region [u1 18 .mov [.tm 3],
 u1 19 .mov [.tm 0],
 u1 20 .lenStr [.tm 19],
 u1 21 (.cmp .lss) [.tm 18, .tm 20]])
 (.cond (.tm 21) .skip
  (.exit 0)))
 (.seq (.block 1 (.seq (.region [u1 24 .mov [.tm 0],
 u1 25 .mov [.tm 3],
 u1 26 .idxStr [.tm 24, .tm 25],
 u1 27 (.call 41) [.tm 26],
 u1 28 .not [.tm 27],
 u1 29 .mov [.tm 28],
 u2 30 29 true .mov [.tm 0],
 u2 31 29 true .mov [.tm 3],
 u2 32 29 true .idxStr [.tm 30, .tm 31],
 u2 33 29 true (.call 42) [.tm 32],
 u2 34 29 true .not [.tm 33],
 u1 35 .and [.tm 29, .tm 34],
 u1 36 .mov [.tm 35],
 u2 37 36 true .mov [.tm 0],
 u2 38 36 true .mov [.tm 3],
 u2 39 36 true .idxStr [.tm 37, .tm 38],
 u2 40 36 true (.cmp .neq) [.tm 39, .cn (.int .u8 95)],
 u1 41 .and [.tm 36, .tm 40]])
 (.cond (.tm 41) (.seq (.region [u1 2 .mov [.cn (.bool false)]])
 .ret)
  .skip)))
 (.region [u1 22 .mov [.tm 3],
 u1 23 (.ari .add) [.tm 22, .cn (.int .i64 1)],
 u1 3 .mov [.tm 23]]))))))
 (.seq (.region [u1 2 .mov [.cn (.bool true)]])
 .ret)))) }
theorem v36_is : vfunc Try.prog Try.f36 = some v36 := by kernel_rfl
def v29 : VF := { ntmps := 18, res := [.tmp 2], body :=
 (.seq (.region [u1 2 .mov [.cn (.int .u64 0)]])
 (.seq (.region [u1 3 .mov [.cn (.int .u64 0)]])
 (.seq (.seq (.region [u1 6 .mov [.tm 0],
 u1 7 .len [.tm 6],
 u1 8 .mov [.cn (.int .i64 0)]])
 (.block 0 (.loop (.seq (.region [u1 9 (.cmp .lss) [.tm 8, .tm 7]])
 (.seq (.cond (.tm 9) .skip
  (.exit 0))
 (.seq (.block 1 (.seq (.region [u1 10 (.idxAddr 1) [.tm 6, .tm 8],
 u1 11 (.load false 1) [.tm 10],
 u1 5 .mov [.tm 11]])
 (.region [u1 12 .mov [.tm 3],
 u1 13 .mov [.tm 5],
 u1 14 .shl [.cn (.int .u64 1), .tm 13],
 u1 15 (.bit .or) [.tm 12, .tm 14],
 u1 3 .mov [.tm 15]])))
 (.region [u1 16 (.ari .add) [.tm 8, .cn (.int .i64 1)],
 u1 8 .mov [.tm 16]])))))))
 (.seq (.region [u1 17 .mov [.tm 3],
 u1 2 .mov [.tm 17]])
 .ret)))) }
theorem v29_is : vfunc Try.prog Try.f29 = some v29 := by kernel_rfl


def inC : Ctr := { alias := false, of := fun l => match l with
  | [.int .i64 n, .int .i64 lo, .int .i64 hi] => .fin (.bool (inF n lo hi)) []
  | _ => noC }
def TA0 : Env := { ct := fun _ => none, fn := fun _ => none, meth := fun _ _ => none }
theorem TA0_ok : EnvOk Try.prog TA0 := by
  refine ⟨fun f c h => ?_, fun f vf h => ?_, (fun _ _ _ h => by cases h), by kernel_rfl⟩
  · cases h
  · cases h

theorem in_ok : inC.ok Try.prog 25 := by
  refine contract Try.func25 v25_is TA0_ok 100 inC fun args k h => ⟨args, ?_⟩
  simp only [inC] at h
  split at h
  · refine ⟨by simp [leL, le], ?_⟩
    dsimp only [v25, go_sem, Option.bind, Option.map, List.append_nil, Nat.beq, List.cons_append, List.nil_append, List.append_eq, List.map_cons, List.map_nil, ite_self, reduceIte]
    simp only [true_and, and_true, imp_self, implies_true, decide_eq_true_eq, decide_eq_false_iff_not, Nat.reduceAdd, Nat.reduceLeDiff, Bool.not_not, reduceCtorEq, false_imp_iff, Bool.not_eq_true', Bool.not_eq_false', Bool.false_eq_true, and_self, forall_const, ne_eq, not_false_eq_true, Nat.reduceEqDiff]
    have h : k _ [] := h
    unfold inF at h
    exact ans_bool h
  · exact h.1.elim
def letC : Ctr := { alias := false, of := fun l => match l with
  | [.int .u8 c] => .pre (0 ≤ c ∧ c ≤ 255) (.fin (.bool (letF c)) [])
  | _ => noC }
def digC : Ctr := { alias := false, of := fun l => match l with
  | [.int .u8 c] => .fin (.bool (digF c)) []
  | _ => noC }
theorem let_ok : letC.ok Try.prog 39 := by
  refine contract Try.func39 v39_is TA0_ok 100 letC fun args k h => ⟨args, ?_⟩
  simp only [letC] at h
  split at h
  · refine ⟨by simp [leL, le], ?_⟩
    dsimp only [v39, go_sem, Option.bind, Option.map, List.append_nil, Nat.beq, List.cons_append, List.nil_append, List.append_eq, List.map_cons, List.map_nil, ite_self, reduceIte]
    simp only [true_and, and_true, imp_self, implies_true, decide_eq_true_eq, decide_eq_false_iff_not, Nat.reduceAdd, Nat.reduceLeDiff, Bool.not_not, reduceCtorEq, false_imp_iff, Bool.not_eq_true', Bool.not_eq_false', Bool.false_eq_true, and_self, forall_const, ne_eq, not_false_eq_true, Nat.reduceEqDiff]
    obtain ⟨⟨h0, h1⟩, h⟩ := h
    have h : k _ [] := h
    rw [← let_or h0 h1] at h
    exact ans_bool h
  · exact h.1.elim
theorem dig_ok : digC.ok Try.prog 40 := by
  refine contract Try.func40 v40_is TA0_ok 100 digC fun args k h => ⟨args, ?_⟩
  simp only [digC] at h
  split at h
  · refine ⟨by simp [leL, le], ?_⟩
    dsimp only [v40, go_sem, Option.bind, Option.map, List.append_nil, Nat.beq, List.cons_append, List.nil_append, List.append_eq, List.map_cons, List.map_nil, ite_self, reduceIte]
    simp only [true_and, and_true, imp_self, implies_true, decide_eq_true_eq, decide_eq_false_iff_not, Nat.reduceAdd, Nat.reduceLeDiff, Bool.not_not, reduceCtorEq, false_imp_iff, Bool.not_eq_true', Bool.not_eq_false', Bool.false_eq_true, and_self, forall_const, ne_eq, not_false_eq_true, Nat.reduceEqDiff]
    have h : k _ [] := h
    unfold digF at h
    exact ans_bool h
  · exact h.1.elim
theorem rlet_ok : letC.ok Try.prog 41 := by
  refine contract Try.func41 v41_is TA0_ok 100 letC fun args k h => ⟨args, ?_⟩
  simp only [letC] at h
  split at h
  · refine ⟨by simp [leL, le], ?_⟩
    dsimp only [v41, go_sem, Option.bind, Option.map, List.append_nil, Nat.beq, List.cons_append, List.nil_append, List.append_eq, List.map_cons, List.map_nil, ite_self, reduceIte]
    simp only [true_and, and_true, imp_self, implies_true, decide_eq_true_eq, decide_eq_false_iff_not, Nat.reduceAdd, Nat.reduceLeDiff, Bool.not_not, reduceCtorEq, false_imp_iff, Bool.not_eq_true', Bool.not_eq_false', Bool.false_eq_true, and_self, forall_const, ne_eq, not_false_eq_true, Nat.reduceEqDiff]
    obtain ⟨⟨h0, h1⟩, h⟩ := h
    have h : k _ [] := h
    unfold letF at h
    exact ⟨fun a b => by rw [a, decide_eq_true b]; rfl, ans_bool h⟩
  · exact h.1.elim
theorem rdig_ok : digC.ok Try.prog 42 := by
  refine contract Try.func42 v42_is TA0_ok 100 digC fun args k h => ⟨args, ?_⟩
  simp only [digC] at h
  split at h
  · refine ⟨by simp [leL, le], ?_⟩
    dsimp only [v42, go_sem, Option.bind, Option.map, List.append_nil, Nat.beq, List.cons_append, List.nil_append, List.append_eq, List.map_cons, List.map_nil, ite_self, reduceIte]
    simp only [true_and, and_true, imp_self, implies_true, decide_eq_true_eq, decide_eq_false_iff_not, Nat.reduceAdd, Nat.reduceLeDiff, Bool.not_not, reduceCtorEq, false_imp_iff, Bool.not_eq_true', Bool.not_eq_false', Bool.false_eq_true, and_self, forall_const, ne_eq, not_false_eq_true, Nat.reduceEqDiff]
    have h : k _ [] := h
    unfold digF at h
    exact ans_bool h
  · exact h.1.elim

def nameC : Ctr := { alias := false, of := fun l => match l with
  | [.val (.string b)] => .pre (b.size ≤ 9223372036854775807) (.fin (.bool (nameF b)) [])
  | _ => noC }
def TA1 : Env := { ct := fun n => match n with | 39 => some letC | 40 => some digC | _ => none, fn := fun _ => none, meth := fun _ _ => none }
theorem TA1_ct39 : TA1.ct 39 = some letC := rfl
theorem TA1_ct40 : TA1.ct 40 = some digC := rfl
theorem TA1_ok : EnvOk Try.prog TA1 := by
  refine ⟨fun f c h => ?_, fun f vf h => ?_, (fun _ _ _ h => by cases h), by kernel_rfl⟩
  · simp only [TA1] at h
    split at h
    · cases h; exact ⟨let_ok, Try.f39, Try.func39, by kernel_rfl, by kernel_rfl⟩
    · cases h; exact ⟨dig_ok, Try.f40, Try.func40, by kernel_rfl, by kernel_rfl⟩
    · cases h
  · cases h

theorem name_ok : nameC.ok Try.prog 35 := by
  refine contract Try.func35 v35_is TA1_ok 200 nameC fun args k h => ⟨args, ?_⟩
  simp only [nameC] at h
  split at h
  · rename_i b
    refine ⟨by simp [leL, le, bnd], ?_⟩
    obtain ⟨hb, h⟩ := h
    have h : k _ [] := h
    dsimp only [v35, go_sem, Option.bind, Option.map, List.append_nil, Nat.beq, List.cons_append, List.nil_append, List.append_eq, List.map_cons, List.map_nil, ite_self, reduceIte]
    simp only [true_and, and_true, imp_self, implies_true, decide_eq_true_eq, decide_eq_false_iff_not, Nat.reduceAdd, Nat.reduceLeDiff, Bool.not_not, reduceCtorEq, false_imp_iff, Bool.not_eq_true', Bool.not_eq_false', Bool.false_eq_true, and_self, forall_const, ne_eq, not_false_eq_true, Nat.reduceEqDiff]
    refine Loop.keep [0, 4, 0, 0] Nat (fun i => [(7, .int .i64 i)]) (fun _ => []) [] (fun i => i ≤ b.size ∧ ∀ j, j < i → okB b j = true) (fun i => b.size - i) ?_ ?_
    · refine ⟨0, ⟨Nat.zero_le _, fun j h => by omega⟩, ?_⟩
      dsimp only [go_sem, Option.bind, Option.map, List.append_nil, Nat.beq, List.cons_append, List.nil_append, List.append_eq, List.map_cons, List.map_nil, ite_self, reduceIte]
      simp only [leS_mk, leL_cons, leL_nil, le_junk, le_int, le_bool, le_nil, leLL_nil, leLL_cons, leH_cons, leH_nil, leH1_box, leH1_own, leH1_gone, le_vs, le_agg, le_tup, le_ptr, le_own, le_xp, le_fn, le_opt, le_val, le_elem, le_nil_own, le_nil_vs, leH_ghost, leL_chunk, leXL_id, bnd_int, bnd_bool, bnd_val, bnd_nil, bnd_junk, bnd_vs, bnd_xp, bnd_agg, bnd_tup, bnd_ptr, bnd_own, bnd_elem, bnd_fn, bnd_iface, bnd_opt, bnd_row, bnd_rcell, bnd_imap, bnd_smp, le_row, le_rcell, le_imap, le_smp, leH1_smap, bndL_nil, bndL_cons, lenH_cons, lenH_nil, imp_self, implies_true, true_and, and_true]
      simp
    · rintro i ⟨hi, ha⟩
      dsimp only [TA1_ct39, TA1_ct40, letC, digC, go_sem, Option.bind, Option.map, List.append_nil, Nat.beq, List.cons_append, List.nil_append, List.append_eq, List.map_cons, List.map_nil, ite_self, reduceIte]
      simp only [true_and, and_true, imp_self, implies_true, decide_eq_true_eq, decide_eq_false_iff_not, Nat.reduceAdd, Nat.reduceLeDiff, Bool.not_not, reduceCtorEq, false_imp_iff, Bool.not_eq_true', Bool.not_eq_false', Bool.false_eq_true, and_self, forall_const, ne_eq, not_false_eq_true, Nat.reduceEqDiff, Int.toNat_natCast]
      refine ⟨fun hlt => ⟨⟨by omega, hlt⟩, byteAt_rng b i, fun a c => by rw [a, decide_eq_false c]; rfl, fun a c => by rw [a, decide_eq_false c]; rfl, fun hc => ?_, fun hc => ?_⟩, fun hge => ?_⟩
      · rw [okB_not] at hc
        rw [name_no (by omega : i < b.size) (by simpa using hc)] at h
        exact ans_bool h
      · rw [okB_not] at hc
        refine ⟨i + 1, ⟨by omega, fun j hj => ?_⟩, by omega, ?_⟩
        · rcases Nat.lt_or_ge j i with h' | h'
          · exact ha j h'
          · obtain rfl : j = i := by omega
            simpa using hc
        · simp only [leS_mk, leL_cons, leL_nil, le_junk, le_int, le_bool, le_nil, leLL_nil, leLL_cons, leH_cons, leH_nil, leH1_box, leH1_own, leH1_gone, le_vs, le_agg, le_tup, le_ptr, le_own, le_xp, le_fn, le_opt, le_val, le_elem, le_nil_own, le_nil_vs, leH_ghost, leL_chunk, leXL_id, bnd_int, bnd_bool, bnd_val, bnd_nil, bnd_junk, bnd_vs, bnd_xp, bnd_agg, bnd_tup, bnd_ptr, bnd_own, bnd_elem, bnd_fn, bnd_iface, bnd_opt, bnd_row, bnd_rcell, bnd_imap, bnd_smp, le_row, le_rcell, le_imap, le_smp, leH1_smap, bndL_nil, bndL_cons, lenH_cons, lenH_nil, imp_self, implies_true, true_and, and_true]
          exact w_succ (by omega : i < b.size) (by omega)
      · obtain rfl : i = b.size := by omega
        rw [name_yes ha] at h
        exact ans_bool h
  · exact h.1.elim

def ofC : Ctr := { alias := false, of := fun l => match l with
  | [.vs _ _ n sz get] => .ex (List Int) fun l => .pre (lsP 1 enc1 n sz get l ∧ smallL l ∧ l.length ≤ 1000000000000) (.fin (.int .u64 (maskF l)) [])
  | _ => noC }
theorem of_ok : ofC.ok Try.prog 29 := by
  refine contract Try.func29 v29_is TA0_ok 200 ofC fun args k h => ?_
  simp only [ofC] at h
  split at h
  · rename_i t z n sz get
    obtain ⟨l, ⟨⟨rfl, rfl, hg⟩, hs, hl⟩, h⟩ := h
    have h : k _ [] := h
    refine ⟨[.vs false z l.length 1 (fun k => enc1 (l.getD k default))], ⟨⟨fun h => (by cases h), rfl, rfl, rfl, hg⟩, trivial⟩, ?_⟩
    dsimp only [v29, go_sem, Option.bind, Option.map, List.append_nil, Nat.beq, List.cons_append, List.nil_append, List.append_eq, List.map_cons, List.map_nil, ite_self, reduceIte]
    simp only [true_and, and_true, imp_self, implies_true, decide_eq_true_eq, decide_eq_false_iff_not, Nat.reduceAdd, Nat.reduceLeDiff, Bool.not_not, reduceCtorEq, false_imp_iff, Bool.not_eq_true', Bool.not_eq_false', Bool.false_eq_true, and_self, forall_const, ne_eq, not_false_eq_true, Nat.reduceEqDiff]
    refine Loop.keep [6, 0, 0] Nat (fun i => [(3, .int .u64 (maskF (l.take i))), (8, .int .i64 i)]) (fun _ => []) [] (fun i => i ≤ l.length) (fun i => l.length - i) ?_ ?_
    · refine ⟨0, Nat.zero_le _, ?_⟩
      dsimp only [go_sem, Option.bind, Option.map, List.append_nil, Nat.beq, List.cons_append, List.nil_append, List.append_eq, List.map_cons, List.map_nil, ite_self, reduceIte]
      simp only [leS_mk, leL_cons, leL_nil, le_junk, le_int, le_bool, le_nil, leLL_nil, leLL_cons, leH_cons, leH_nil, leH1_box, leH1_own, leH1_gone, le_vs, le_agg, le_tup, le_ptr, le_own, le_xp, le_fn, le_opt, le_val, le_elem, le_nil_own, le_nil_vs, leH_ghost, leL_chunk, leXL_id, bnd_int, bnd_bool, bnd_val, bnd_nil, bnd_junk, bnd_vs, bnd_xp, bnd_agg, bnd_tup, bnd_ptr, bnd_own, bnd_elem, bnd_fn, bnd_iface, bnd_opt, bnd_row, bnd_rcell, bnd_imap, bnd_smp, le_row, le_rcell, le_imap, le_smp, leH1_smap, bndL_nil, bndL_cons, lenH_cons, lenH_nil, imp_self, implies_true, true_and, and_true]
      simp [maskF]
    · rintro i hi
      dsimp only [enc1, go_sem, Option.bind, Option.map, List.append_nil, Nat.beq, List.cons_append, List.nil_append, List.append_eq, List.map_cons, List.map_nil, ite_self, reduceIte]
      simp only [true_and, and_true, imp_self, implies_true, decide_eq_true_eq, decide_eq_false_iff_not, Nat.reduceAdd, Nat.reduceLeDiff, Bool.not_not, reduceCtorEq, false_imp_iff, Bool.not_eq_true', Bool.not_eq_false', Bool.false_eq_true, and_self, forall_const, ne_eq, not_false_eq_true, Nat.reduceEqDiff, Int.toNat_natCast]
      refine ⟨fun hlt => ?_, fun hge => ?_⟩
      · have hi' : i < l.length := by omega
        obtain ⟨g0, g1⟩ := hs _ (getD_mem hi')
        refine ⟨⟨by omega, hlt⟩, g0, i + 1, by omega, by omega, ?_⟩
        simp only [leS_mk, leL_cons, leL_nil, le_junk, le_int, le_bool, le_nil, leLL_nil, leLL_cons, leH_cons, leH_nil, leH1_box, leH1_own, leH1_gone, le_vs, le_agg, le_tup, le_ptr, le_own, le_xp, le_fn, le_opt, le_val, le_elem, le_nil_own, le_nil_vs, leH_ghost, leL_chunk, leXL_id, bnd_int, bnd_bool, bnd_val, bnd_nil, bnd_junk, bnd_vs, bnd_xp, bnd_agg, bnd_tup, bnd_ptr, bnd_own, bnd_elem, bnd_fn, bnd_iface, bnd_opt, bnd_row, bnd_rcell, bnd_imap, bnd_smp, le_row, le_rcell, le_imap, le_smp, leH1_smap, bndL_nil, bndL_cons, lenH_cons, lenH_nil, imp_self, implies_true, true_and, and_true]
        refine ⟨?_, w_succ hi' (by omega)⟩
        · have e := u64_shl g0 g1
          rw [show IntKind.u64.bits = 64 from rfl] at e
          rw [e, u64_or (maskF_lt (smallL_take hs i)) (Nat.pow_lt_pow_right (by omega) (by omega)), maskF_take hi']
      · obtain rfl : i = l.length := by omega
        rw [List.take_length]
        exact ans_int h
  · exact h.1.elim
def v28 : VF := { ntmps := 27, res := [.tmp 6], body :=
 (.seq (.region [u1 6 .mov [.cn (.bool false)]])
 (.seq (.region [u1 8 .mov [.tm 1],
 u1 9 .mov [.tm 2],
 u1 10 (.idxAddr 4) [.tm 8, .tm 9],
 u1 11 (.fieldAddr 2) [.tm 10],
 u1 12 (.load false 1) [.tm 11],
 u1 13 (.call 29) [.tm 12],
 u1 7 .mov [.tm 13]])
 (.seq (.region [u1 14 .mov [.tm 0],
 u1 15 .mov [.tm 2],
 u1 16 (.buildSlice 1 1 [(.int .i64 0)] [(0, 1)]) [.tm 15],
 u1 17 (.call 29) [.tm 16],
 u1 18 (.bit .and) [.tm 14, .tm 17],
 u1 19 (.cmp .eql) [.tm 18, .cn (.int .u64 0)],
 u1 20 .mov [.tm 19],
 u2 21 20 true .mov [.tm 0],
 u2 22 20 true .mov [.tm 7],
 u2 23 20 true (.bit .and) [.tm 21, .tm 22],
 u2 24 20 true .mov [.tm 7],
 u2 25 20 true (.cmp .eql) [.tm 23, .tm 24],
 u1 26 .and [.tm 20, .tm 25],
 u1 6 .mov [.tm 26]])
 .ret))) }
theorem v28_is : vfunc Try.prog Try.f28 = some v28 := by kernel_rfl
def v26 : VF := { ntmps := 43, res := [.tmp 2], body :=
 (.seq (.region [u1 1 .box [.tm 0],
 u1 2 .mov [.cn (.bool false)]])
 (.seq (.seq (.region [u1 7 (.fieldAddr 0) [.tm 1],
 u1 8 (.load false 1) [.tm 7],
 u1 9 .len [.tm 8],
 u1 10 .mov [.cn (.int .i64 0)]])
 (.block 0 (.loop (.seq (.region [u1 11 (.cmp .lss) [.tm 10, .tm 9]])
 (.seq (.cond (.tm 11) .skip
  (.exit 0))
 (.seq (.block 1 (.seq (.region [u1 12 .mov [.tm 10],
 u1 13 (.idxAddr 1) [.tm 8, .tm 10],
 u1 14 (.load false 1) [.tm 13],
 u1 3 .mov [.tm 12],
 u1 4 .mov [.tm 14]])
 (.seq (.seq (.region [u1 15 .mov [.tm 4],
 u1 16 .len [.tm 15],
 u1 17 (.fieldAddr 0) [.tm 1],
 u1 18 (.load false 1) [.tm 17],
 u1 19 .len [.tm 18],
 u1 20 (.cmp .neq) [.tm 16, .tm 19],
 u1 21 .mov [.tm 20],
 u2 22 21 false .mov [.tm 4],
 u2 23 21 false .mov [.tm 3],
 u2 24 21 false (.idxAddr 1) [.tm 22, .tm 23],
 u2 25 21 false (.load false 1) [.tm 24],
 u2 26 21 false (.cmp .neq) [.tm 25, .cn (.int .i64 0)],
 u1 27 .or [.tm 21, .tm 26]])
 (.cond (.tm 27) (.seq (.region [u1 2 .mov [.cn (.bool false)]])
 .ret)
  .skip))
 (.seq (.region [u1 28 .mov [.tm 4],
 u1 29 .len [.tm 28],
 u1 30 .mov [.cn (.int .i64 0)]])
 (.block 2 (.loop (.seq (.region [u1 31 (.cmp .lss) [.tm 30, .tm 29]])
 (.seq (.cond (.tm 31) .skip
  (.exit 2))
 (.seq (.block 3 (.seq (.region [u1 32 (.idxAddr 1) [.tm 28, .tm 30],
 u1 33 (.load false 1) [.tm 32],
 u1 6 .mov [.tm 33]])
 (.seq (.region [u1 34 .mov [.tm 6],
 u1 35 (.call 25) [.tm 34, .cn (.int .i64 0), .cn (.int .i64 1000)],
 u1 36 .not [.tm 35]])
 (.cond (.tm 36) (.seq (.region [u1 2 .mov [.cn (.bool false)]])
 .ret)
  .skip))))
 (.region [u1 37 (.ari .add) [.tm 30, .cn (.int .i64 1)],
 u1 30 .mov [.tm 37]]))))))))))
 (.region [u1 38 (.ari .add) [.tm 10, .cn (.int .i64 1)],
 u1 10 .mov [.tm 38]])))))))
 (.seq (.region [u1 39 (.fieldAddr 0) [.tm 1],
 u1 40 (.load false 1) [.tm 39],
 u1 41 .len [.tm 40],
 u1 42 (.cmp .gtr) [.tm 41, .cn (.int .i64 0)],
 u1 2 .mov [.tm 42]])
 .ret))) }
theorem v26_is : vfunc Try.prog Try.f26 = some v26 := by kernel_rfl
def v30 : VF := { ntmps := 64, res := [.tmp 2], body :=
 (.seq (.region [u1 1 .box [.tm 0],
 u1 2 .mov [.cn (.bool false)]])
 (.seq (.seq (.region [u1 3 .mov [.cn (.int .i64 0)]])
 (.block 0 (.loop (.seq (.seq (.region [u1 5 .mov [.tm 3],
 u1 6 (.fieldAddr 0) [.tm 1],
 u1 7 (.load false 1) [.tm 6],
 u1 8 .len [.tm 7],
 u1 9 (.cmp .lss) [.tm 5, .tm 8]])
 (.cond (.tm 9) .skip
  (.exit 0)))
 (.seq (.block 1 (.seq (.seq (.draw [] [w1 12 (.fieldAddr 0) [.tm 1],
 w1 13 (.load false 1) [.tm 12],
 w1 14 .mov [.tm 3],
 w1 15 (.idxAddr 1) [.tm 13, .tm 14],
 w1 16 (.load false 1) [.tm 15],
 w1 17 .len [.tm 16],
 w1 18 (.fieldAddr 0) [.tm 1],
 w1 19 (.load false 1) [.tm 18],
 w1 20 .len [.tm 19],
 w1 21 (.cmp .neq) [.tm 17, .tm 20],
 w1 22 .mov [.tm 21],
 ⟨u2 23 22 false (.fieldAddr 0) [.tm 1], []⟩,
 ⟨u2 24 22 false (.load false 1) [.tm 23], []⟩,
 ⟨u2 25 22 false .mov [.tm 3], []⟩,
 ⟨u2 26 22 false (.idxAddr 1) [.tm 24, .tm 25], []⟩,
 ⟨u2 27 22 false (.load false 1) [.tm 26], []⟩,
 ⟨u2 28 22 false .mov [.tm 3], []⟩,
 ⟨u2 29 22 false (.idxAddr 1) [.tm 27, .tm 28], []⟩,
 ⟨u2 30 22 false (.load false 1) [.tm 29], []⟩,
 ⟨u2 31 22 false (.cmp .neq) [.tm 30, .cn (.int .i64 0)], []⟩,
 w1 32 .or [.tm 22, .tm 31]])
 (.cond (.tm 32) (.seq (.region [u1 2 .mov [.cn (.bool false)]])
 .ret)
  .skip))
 (.seq (.region [u1 4 .mov [.cn (.int .i64 0)]])
 (.block 2 (.loop (.seq (.seq (.region [u1 33 .mov [.tm 4],
 u1 34 (.fieldAddr 0) [.tm 1],
 u1 35 (.load false 1) [.tm 34],
 u1 36 .len [.tm 35],
 u1 37 (.cmp .lss) [.tm 33, .tm 36]])
 (.cond (.tm 37) .skip
  (.exit 2)))
 (.seq (.block 3 (.seq (.region [u1 40 (.fieldAddr 0) [.tm 1],
 u1 41 (.load false 1) [.tm 40],
 u1 42 .mov [.tm 3],
 u1 43 (.idxAddr 1) [.tm 41, .tm 42],
 u1 44 (.load false 1) [.tm 43],
 u1 45 .mov [.tm 4],
 u1 46 (.idxAddr 1) [.tm 44, .tm 45],
 u1 47 (.load false 1) [.tm 46],
 u1 48 (.cmp .lss) [.tm 47, .cn (.int .i64 0)],
 u1 49 .mov [.tm 48],
 u2 50 49 false (.fieldAddr 0) [.tm 1],
 u2 51 49 false (.load false 1) [.tm 50],
 u2 52 49 false .mov [.tm 3],
 u2 53 49 false (.idxAddr 1) [.tm 51, .tm 52],
 u2 54 49 false (.load false 1) [.tm 53],
 u2 55 49 false .mov [.tm 4],
 u2 56 49 false (.idxAddr 1) [.tm 54, .tm 55],
 u2 57 49 false (.load false 1) [.tm 56],
 u2 58 49 false (.cmp .gtr) [.tm 57, .cn (.int .i64 1000)],
 u1 59 .or [.tm 49, .tm 58]])
 (.cond (.tm 59) (.seq (.region [u1 2 .mov [.cn (.bool false)]])
 .ret)
  .skip)))
 (.region [u1 38 .mov [.tm 4],
 u1 39 (.ari .add) [.tm 38, .cn (.int .i64 1)],
 u1 4 .mov [.tm 39]]))))))))
 (.region [u1 10 .mov [.tm 3],
 u1 11 (.ari .add) [.tm 10, .cn (.int .i64 1)],
 u1 3 .mov [.tm 11]]))))))
 (.seq (.region [u1 60 (.fieldAddr 0) [.tm 1],
 u1 61 (.load false 1) [.tm 60],
 u1 62 .len [.tm 61],
 u1 63 (.cmp .gtr) [.tm 62, .cn (.int .i64 0)],
 u1 2 .mov [.tm 63]])
 .ret))) }
theorem v30_is : vfunc Try.prog Try.f30 = some v30 := by kernel_rfl
def v32 : VF := { ntmps := 20, res := [.tmp 4], body :=
 (.seq (.region [u1 4 .mov [.cn (.bool false)]])
 (.seq (.seq (.region [u1 5 .mov [.cn (.int .i64 0)]])
 (.block 0 (.loop (.seq (.seq (.region [u1 6 .mov [.tm 5],
 u1 7 .mov [.tm 0],
 u1 8 .len [.tm 7],
 u1 9 (.cmp .lss) [.tm 6, .tm 8]])
 (.cond (.tm 9) .skip
  (.exit 0)))
 (.seq (.block 1 (.seq (.region [u1 12 .mov [.tm 1],
 u1 13 .mov [.tm 0],
 u1 14 .mov [.tm 5],
 u1 15 (.idxAddr 1) [.tm 13, .tm 14],
 u1 16 (.load false 1) [.tm 15],
 u1 17 (.idxAddr 1) [.tm 12, .tm 16],
 u1 18 (.load false 1) [.tm 17],
 u1 19 .not [.tm 18]])
 (.cond (.tm 19) (.seq (.region [u1 4 .mov [.cn (.bool false)]])
 .ret)
  .skip)))
 (.region [u1 10 .mov [.tm 5],
 u1 11 (.ari .add) [.tm 10, .cn (.int .i64 1)],
 u1 5 .mov [.tm 11]]))))))
 (.seq (.region [u1 4 .mov [.cn (.bool true)]])
 .ret))) }
theorem v32_is : vfunc Try.prog Try.f32 = some v32 := by kernel_rfl

def TA2 : Env := { ct := fun n => match n with | 41 => some letC | 42 => some digC | _ => none, fn := fun _ => none, meth := fun _ _ => none }
theorem TA2_ct41 : TA2.ct 41 = some letC := rfl
theorem TA2_ct42 : TA2.ct 42 = some digC := rfl
theorem TA2_ok : EnvOk Try.prog TA2 := by
  refine ⟨fun f c h => ?_, fun f vf h => ?_, (fun _ _ _ h => by cases h), by kernel_rfl⟩
  · simp only [TA2] at h
    split at h
    · cases h; exact ⟨rlet_ok, Try.f41, Try.func41, by kernel_rfl, by kernel_rfl⟩
    · cases h; exact ⟨rdig_ok, Try.f42, Try.func42, by kernel_rfl, by kernel_rfl⟩
    · cases h
  · cases h

theorem rname_ok : nameC.ok Try.prog 36 := by
  refine contract Try.func36 v36_is TA2_ok 200 nameC fun args k h => ⟨args, ?_⟩
  simp only [nameC] at h
  split at h
  · rename_i b
    refine ⟨by simp [leL, le, bnd], ?_⟩
    obtain ⟨hb, h⟩ := h
    have h : k _ [] := h
    dsimp only [v36, TA2_ct41, TA2_ct42, letC, digC, go_sem, Option.bind, Option.map, List.append_nil, Nat.beq, List.cons_append, List.nil_append, List.append_eq, List.map_cons, List.map_nil, ite_self, reduceIte]
    simp only [true_and, and_true, imp_self, implies_true, decide_eq_true_eq, decide_eq_false_iff_not, Nat.reduceAdd, Nat.reduceLeDiff, Bool.not_not, reduceCtorEq, false_imp_iff, Bool.not_eq_true', Bool.not_eq_false', Bool.false_eq_true, and_self, forall_const, ne_eq, not_false_eq_true, Nat.reduceEqDiff, show Int.toNat 0 = 0 from rfl]
    have hpos : (decide ((b.size : Int) < 1) || decide (16 < (b.size : Int))) = false → 0 < (b.size : Int) := fun h => by
      simp only [Bool.or_eq_false_iff, decide_eq_false_iff_not] at h; omega
    refine ⟨fun h => ⟨by omega, hpos h⟩, fun _ => byteAt_rng b 0, fun hc => ?_, fun hc => ?_⟩
    · rw [rname_no hc] at h; exact ans_bool h
    refine Loop.keep [0, 2] Nat (fun i => [(3, .int .i64 i)]) (fun _ => []) [] (fun i => i ≤ b.size ∧ ∀ j, j < i → okR b j = true) (fun i => b.size - i) ?_ ?_
    · refine ⟨0, ⟨Nat.zero_le _, fun j h => by omega⟩, ?_⟩
      dsimp only [go_sem, Option.bind, Option.map, List.append_nil, Nat.beq, List.cons_append, List.nil_append, List.append_eq, List.map_cons, List.map_nil, ite_self, reduceIte]
      simp only [leS_mk, leL_cons, leL_nil, le_junk, le_int, le_bool, le_nil, leLL_nil, leLL_cons, leH_cons, leH_nil, leH1_box, leH1_own, leH1_gone, le_vs, le_agg, le_tup, le_ptr, le_own, le_xp, le_fn, le_opt, le_val, le_elem, le_nil_own, le_nil_vs, leH_ghost, leL_chunk, leXL_id, bnd_int, bnd_bool, bnd_val, bnd_nil, bnd_junk, bnd_vs, bnd_xp, bnd_agg, bnd_tup, bnd_ptr, bnd_own, bnd_elem, bnd_fn, bnd_iface, bnd_opt, bnd_row, bnd_rcell, bnd_imap, bnd_smp, le_row, le_rcell, le_imap, le_smp, leH1_smap, bndL_nil, bndL_cons, lenH_cons, lenH_nil, imp_self, implies_true, true_and, and_true]
      simp
    · rintro i ⟨hi, ha⟩
      dsimp only [TA2_ct41, TA2_ct42, letC, digC, go_sem, Option.bind, Option.map, List.append_nil, Nat.beq, List.cons_append, List.nil_append, List.append_eq, List.map_cons, List.map_nil, ite_self, reduceIte]
      simp only [true_and, and_true, imp_self, implies_true, decide_eq_true_eq, decide_eq_false_iff_not, Nat.reduceAdd, Nat.reduceLeDiff, Bool.not_not, reduceCtorEq, false_imp_iff, Bool.not_eq_true', Bool.not_eq_false', Bool.false_eq_true, and_self, forall_const, ne_eq, not_false_eq_true, Nat.reduceEqDiff, Int.toNat_natCast]
      refine ⟨fun hlt => ⟨⟨by omega, hlt⟩, byteAt_rng b i, fun _ => ⟨by omega, hlt⟩, fun _ => ⟨by omega, hlt⟩, fun hc2 => ?_, fun hc2 => ?_⟩, fun hge => ?_⟩
      · rw [okR_not] at hc2
        rw [rname_no2 (by omega : i < b.size) (by simpa using hc2)] at h
        exact ans_bool h
      · rw [okR_not] at hc2
        refine ⟨i + 1, ⟨by omega, fun j hj => ?_⟩, by omega, ?_⟩
        · rcases Nat.lt_or_ge j i with h' | h'
          · exact ha j h'
          · obtain rfl : j = i := by omega
            simpa using hc2
        · simp only [leS_mk, leL_cons, leL_nil, le_junk, le_int, le_bool, le_nil, leLL_nil, leLL_cons, leH_cons, leH_nil, leH1_box, leH1_own, leH1_gone, le_vs, le_agg, le_tup, le_ptr, le_own, le_xp, le_fn, le_opt, le_val, le_elem, le_nil_own, le_nil_vs, leH_ghost, leL_chunk, leXL_id, bnd_int, bnd_bool, bnd_val, bnd_nil, bnd_junk, bnd_vs, bnd_xp, bnd_agg, bnd_tup, bnd_ptr, bnd_own, bnd_elem, bnd_fn, bnd_iface, bnd_opt, bnd_row, bnd_rcell, bnd_imap, bnd_smp, le_row, le_rcell, le_imap, le_smp, leH1_smap, bndL_nil, bndL_cons, lenH_cons, lenH_nil, imp_self, implies_true, true_and, and_true]
          exact w_succ (by omega : i < b.size) (by omega)
      · obtain rfl : i = b.size := by omega
        rw [rname_yes hc ha] at h
        exact ans_bool h
  · exact h.1.elim

def encR (x : Rw) : List SV := [.vs false x.z x.v.length 1 (fun k => enc1 (x.v.getD k default))]
def encK (x : Wk) : List SV := [.val (.string x.nm), .int .i64 x.pl, .vs false x.af.z x.af.v.length 1 (fun k => enc1 (x.af.v.getD k default)), .int .i64 x.mi]
def mayC : Ctr := { alias := false, of := fun l => match l with
  | [.int .u64 s, .vs _ _ n sz get, .int .i64 i] => .ex (List Wk) fun l => .ex Nat fun S => .ex Nat fun I => .pre (lsP 4 encK n sz get l ∧ (s = S ∧ S < 2 ^ 64) ∧ (i = I ∧ I < l.length ∧ I < 64) ∧ (∀ x ∈ l, smallL x.af.v ∧ x.af.v.length ≤ 1000000000000)) (.fin (.bool (mayF l S I)) [])
  | _ => noC }
def TA3 : Env := { ct := fun n => match n with | 29 => some ofC | _ => none, fn := fun _ => none, meth := fun _ _ => none }
theorem TA3_ct29 : TA3.ct 29 = some ofC := rfl
theorem TA3_ok : EnvOk Try.prog TA3 := by
  refine ⟨fun f c h => ?_, fun f vf h => ?_, (fun _ _ _ h => by cases h), by kernel_rfl⟩
  · simp only [TA3] at h
    split at h
    · cases h; exact ⟨of_ok, Try.f29, Try.func29, by kernel_rfl, by kernel_rfl⟩
    · cases h
  · cases h

theorem may_ok : mayC.ok Try.prog 28 := by
  refine contract Try.func28 v28_is TA3_ok 200 mayC fun args k h => ?_
  simp only [mayC] at h
  split at h
  · rename_i s t z n sz get i
    obtain ⟨l, S, I, ⟨⟨rfl, rfl, hg⟩, ⟨rfl, hS⟩, ⟨rfl, hI, hI2⟩, hx⟩, h⟩ := h
    have h : k _ [] := h
    refine ⟨[.int .u64 S, .vs false z l.length 4 (fun k => encK (l.getD k default)), .int .i64 I], ⟨⟨rfl, rfl⟩, ⟨fun h => (by cases h), rfl, rfl, rfl, hg⟩, ⟨rfl, rfl⟩, trivial⟩, ?_⟩
    dsimp only [v28, TA3_ct29, ofC, encK, go_sem, Option.bind, Option.map, List.append_nil, Nat.beq, List.cons_append, List.nil_append, List.append_eq, List.map_cons, List.map_nil, ite_self, reduceIte]
    simp only [true_and, and_true, imp_self, implies_true, decide_eq_true_eq, decide_eq_false_iff_not, Nat.reduceAdd, Nat.reduceLeDiff, Bool.not_not, reduceCtorEq, false_imp_iff, Bool.not_eq_true', Bool.not_eq_false', Bool.false_eq_true, and_self, forall_const, ne_eq, not_false_eq_true, Nat.reduceEqDiff, Int.toNat_natCast]
    obtain ⟨hx1, hx2⟩ := hx _ (getD_mem hI)
    refine ⟨⟨by omega, by omega⟩, (l.getD I default).af.v, ⟨⟨rfl, rfl, fun k _ => leXL_self _⟩, hx1, hx2⟩, Nat.one_pos, [(I : Int)], ⟨⟨rfl, rfl, fun k hk => ?_⟩, smallL_one hI2, by simp⟩, ?_⟩
    · obtain rfl : k = 0 := by omega
      exact leXL_self _
    · rw [← may_bits hS hI2 hx1] at h
      exact ans_bool h
  · exact h.1.elim
end Go.Proofs.Yteioilioobichaa

/- Tuning, walked: halls, works. -/
/- Tuning, walked: halls, works. -/
set_option linter.all false
namespace Go.Proofs.Yteioilioobichaa
open Go Go.Vx
set_option maxRecDepth 100000
set_option maxHeartbeats 4000000

def hallC : Ctr := { alias := false, of := fun l => match l with
  | [.agg [.vs _ _ n sz get]] => .ex Hal fun l => .pre (lsP 1 encR n sz get l ∧ l.length ≤ 1000000000000 ∧ ∀ x ∈ l, x.v.length ≤ 1000000000000) (.fin (.bool (sqF l)) [])
  | _ => noC }
def TB0 : Env := { ct := fun n => match n with | 25 => some inC | _ => none, fn := fun _ => none, meth := fun _ _ => none }
theorem TB0_ct25 : TB0.ct 25 = some inC := rfl
theorem TB0_ok : EnvOk Try.prog TB0 := by
  refine ⟨fun f c h => ?_, fun f vf h => ?_, (fun _ _ _ h => by cases h), by kernel_rfl⟩
  · simp only [TB0] at h
    split at h
    · cases h; exact ⟨in_ok, Try.f25, Try.func25, by kernel_rfl, by kernel_rfl⟩
    · cases h
  · cases h

theorem sq_ok : hallC.ok Try.prog 26 := by
  refine contract Try.func26 v26_is TB0_ok 200 hallC fun args k h => ?_
  simp only [hallC] at h
  split at h
  · rename_i t z n sz get
    obtain ⟨l, ⟨⟨rfl, rfl, hg⟩, hl, hx⟩, h⟩ := h
    have h : k _ [] := h
    refine ⟨[.agg [.vs false z l.length 1 (fun k => encR (l.getD k default))]], ⟨⟨⟨fun h => (by cases h), rfl, rfl, rfl, hg⟩, trivial⟩, trivial⟩, ?_⟩
    dsimp only [v26, go_sem, Option.bind, Option.map, List.append_nil, Nat.beq, List.cons_append, List.nil_append, List.append_eq, List.map_cons, List.map_nil, ite_self, reduceIte]
    simp only [true_and, and_true, imp_self, implies_true, decide_eq_true_eq, decide_eq_false_iff_not, Nat.reduceAdd, Nat.reduceLeDiff, Bool.not_not, reduceCtorEq, false_imp_iff, Bool.not_eq_true', Bool.not_eq_false', Bool.false_eq_true, and_self, forall_const, ne_eq, not_false_eq_true, Nat.reduceEqDiff]
    refine Loop.keep [0, 0, 5, 0, 0, 0] Nat (fun i => [(2, .bool false), (10, .int .i64 i)]) (fun _ => []) [] (fun i => i ≤ l.length ∧ ∀ j, j < i → rowOk l j = true) (fun i => l.length - i) ?_ ?_
    · refine ⟨0, ⟨Nat.zero_le _, fun j h => by omega⟩, ?_⟩
      dsimp only [go_sem, Option.bind, Option.map, List.append_nil, Nat.beq, List.cons_append, List.nil_append, List.append_eq, List.map_cons, List.map_nil, ite_self, reduceIte]
      simp only [leS_mk, leL_cons, leL_nil, le_junk, le_int, le_bool, le_nil, leLL_nil, leLL_cons, leH_cons, leH_nil, leH1_box, leH1_own, leH1_gone, le_vs, le_agg, le_tup, le_ptr, le_own, le_xp, le_fn, le_opt, le_val, le_elem, le_nil_own, le_nil_vs, leH_ghost, leL_chunk, leXL_id, bnd_int, bnd_bool, bnd_val, bnd_nil, bnd_junk, bnd_vs, bnd_xp, bnd_agg, bnd_tup, bnd_ptr, bnd_own, bnd_elem, bnd_fn, bnd_iface, bnd_opt, bnd_row, bnd_rcell, bnd_imap, bnd_smp, le_row, le_rcell, le_imap, le_smp, leH1_smap, bndL_nil, bndL_cons, lenH_cons, lenH_nil, imp_self, implies_true, true_and, and_true]
      simp
    · rintro i ⟨hi, ha⟩
      dsimp only [encR, enc1, go_sem, Option.bind, Option.map, List.append_nil, Nat.beq, List.cons_append, List.nil_append, List.append_eq, List.map_cons, List.map_nil, ite_self, reduceIte]
      simp only [true_and, and_true, imp_self, implies_true, decide_eq_true_eq, decide_eq_false_iff_not, Nat.reduceAdd, Nat.reduceLeDiff, Bool.not_not, reduceCtorEq, false_imp_iff, Bool.not_eq_true', Bool.not_eq_false', Bool.false_eq_true, and_self, forall_const, ne_eq, not_false_eq_true, Nat.reduceEqDiff, Int.toNat_natCast]
      refine ⟨fun hlt => ?_, fun hge => ?_⟩
      · have hi' : i < l.length := by omega
        have hr := hx _ (getD_mem hi')
        refine ⟨⟨by omega, hlt⟩, fun he => ⟨by omega, by omega⟩, fun hc => ?_, fun hc => ?_⟩
        · rw [sq_no hi' (row_no1 hc)] at h
          exact ans_bool h
        · refine Loop.keep [0, 0, 0, 4, 0, 0, 0, 17, 0] Nat (fun q => [(30, .int .i64 q)]) (fun _ => []) [] (fun q => q ≤ (l.getD i default).v.length ∧ ∀ j, j < q → inF ((l.getD i default).v.getD j default) 0 1000 = true) (fun q => (l.getD i default).v.length - q) ?_ ?_
          · refine ⟨0, ⟨Nat.zero_le _, fun j h => by omega⟩, ?_⟩
            dsimp only [go_sem, Option.bind, Option.map, List.append_nil, Nat.beq, List.cons_append, List.nil_append, List.append_eq, List.map_cons, List.map_nil, ite_self, reduceIte]
            simp only [leS_mk, leL_cons, leL_nil, le_junk, le_int, le_bool, le_nil, leLL_nil, leLL_cons, leH_cons, leH_nil, leH1_box, leH1_own, leH1_gone, le_vs, le_agg, le_tup, le_ptr, le_own, le_xp, le_fn, le_opt, le_val, le_elem, le_nil_own, le_nil_vs, leH_ghost, leL_chunk, leXL_id, bnd_int, bnd_bool, bnd_val, bnd_nil, bnd_junk, bnd_vs, bnd_xp, bnd_agg, bnd_tup, bnd_ptr, bnd_own, bnd_elem, bnd_fn, bnd_iface, bnd_opt, bnd_row, bnd_rcell, bnd_imap, bnd_smp, le_row, le_rcell, le_imap, le_smp, leH1_smap, bndL_nil, bndL_cons, lenH_cons, lenH_nil, imp_self, implies_true, true_and, and_true]
            simp
          · rintro q ⟨hq, hqa⟩
            dsimp only [TB0_ct25, inC, enc1, go_sem, Option.bind, Option.map, List.append_nil, Nat.beq, List.cons_append, List.nil_append, List.append_eq, List.map_cons, List.map_nil, ite_self, reduceIte]
            simp only [true_and, and_true, imp_self, implies_true, decide_eq_true_eq, decide_eq_false_iff_not, Nat.reduceAdd, Nat.reduceLeDiff, Bool.not_not, reduceCtorEq, false_imp_iff, Bool.not_eq_true', Bool.not_eq_false', Bool.false_eq_true, and_self, forall_const, ne_eq, not_false_eq_true, Nat.reduceEqDiff, Int.toNat_natCast]
            refine ⟨fun hlt2 => ⟨⟨by omega, hlt2⟩, fun hb => ?_, fun hb => ?_⟩, fun hge => ?_⟩
            · rw [sq_no hi' (row_no2 (by omega) hb)] at h
              exact ans_bool h
            · refine ⟨q + 1, ⟨by omega, lt_succ_all hqa hb⟩, by omega, ?_⟩
              simp only [leS_mk, leL_cons, leL_nil, le_junk, le_int, le_bool, le_nil, leLL_nil, leLL_cons, leH_cons, leH_nil, leH1_box, leH1_own, leH1_gone, le_vs, le_agg, le_tup, le_ptr, le_own, le_xp, le_fn, le_opt, le_val, le_elem, le_nil_own, le_nil_vs, leH_ghost, leL_chunk, leXL_id, bnd_int, bnd_bool, bnd_val, bnd_nil, bnd_junk, bnd_vs, bnd_xp, bnd_agg, bnd_tup, bnd_ptr, bnd_own, bnd_elem, bnd_fn, bnd_iface, bnd_opt, bnd_row, bnd_rcell, bnd_imap, bnd_smp, le_row, le_rcell, le_imap, le_smp, leH1_smap, bndL_nil, bndL_cons, lenH_cons, lenH_nil, imp_self, implies_true, true_and, and_true]
              refine ⟨by omega, by omega, ?_⟩
              exact w_succ (by omega : q < (l.getD i default).v.length) (by omega)
            · obtain rfl : q = (l.getD i default).v.length := by omega
              refine ⟨i + 1, ⟨by omega, lt_succ_all ha (row_yes hc hqa)⟩, by omega, ?_⟩
              simp only [leS_mk, leL_cons, leL_nil, le_junk, le_int, le_bool, le_nil, leLL_nil, leLL_cons, leH_cons, leH_nil, leH1_box, leH1_own, leH1_gone, le_vs, le_agg, le_tup, le_ptr, le_own, le_xp, le_fn, le_opt, le_val, le_elem, le_nil_own, le_nil_vs, leH_ghost, leL_chunk, leXL_id, bnd_int, bnd_bool, bnd_val, bnd_nil, bnd_junk, bnd_vs, bnd_xp, bnd_agg, bnd_tup, bnd_ptr, bnd_own, bnd_elem, bnd_fn, bnd_iface, bnd_opt, bnd_row, bnd_rcell, bnd_imap, bnd_smp, le_row, le_rcell, le_imap, le_smp, leH1_smap, bndL_nil, bndL_cons, lenH_cons, lenH_nil, imp_self, implies_true, true_and, and_true]
              exact ⟨by omega, by omega, w_succ hi' (by omega)⟩
      · obtain rfl : i = l.length := by omega
        rw [sq_yes ha] at h
        exact ans_bool h
  · exact h.1.elim
def TB1 : Env := { ct := fun _ => none, fn := fun _ => none, meth := fun _ _ => none }
theorem TB1_ok : EnvOk Try.prog TB1 := by
  refine ⟨fun f c h => ?_, fun f vf h => ?_, (fun _ _ _ h => by cases h), by kernel_rfl⟩
  · cases h
  · cases h

theorem rhall_ok : hallC.ok Try.prog 30 := by
  refine contract Try.func30 v30_is TB1_ok 200 hallC fun args k h => ?_
  simp only [hallC] at h
  split at h
  · rename_i t z n sz get
    obtain ⟨l, ⟨⟨rfl, rfl, hg⟩, hl, hx⟩, h⟩ := h
    have h : k _ [] := h
    refine ⟨[.agg [.vs false z l.length 1 (fun k => encR (l.getD k default))]], ⟨⟨⟨fun h => (by cases h), rfl, rfl, rfl, hg⟩, trivial⟩, trivial⟩, ?_⟩
    dsimp only [v30, go_sem, Option.bind, Option.map, List.append_nil, Nat.beq, List.cons_append, List.nil_append, List.append_eq, List.map_cons, List.map_nil, ite_self, reduceIte]
    simp only [true_and, and_true, imp_self, implies_true, decide_eq_true_eq, decide_eq_false_iff_not, Nat.reduceAdd, Nat.reduceLeDiff, Bool.not_not, reduceCtorEq, false_imp_iff, Bool.not_eq_true', Bool.not_eq_false', Bool.false_eq_true, and_self, forall_const, ne_eq, not_false_eq_true, Nat.reduceEqDiff]
    refine Loop.keep [1, 1] Nat (fun i => [(2, .bool false), (3, .int .i64 i)]) (fun _ => []) [] (fun i => i ≤ l.length ∧ ∀ j, j < i → rowOk l j = true) (fun i => l.length - i) ?_ ?_
    · refine ⟨0, ⟨Nat.zero_le _, fun j h => by omega⟩, ?_⟩
      dsimp only [go_sem, Option.bind, Option.map, List.append_nil, Nat.beq, List.cons_append, List.nil_append, List.append_eq, List.map_cons, List.map_nil, ite_self, reduceIte]
      simp only [leS_mk, leL_cons, leL_nil, le_junk, le_int, le_bool, le_nil, leLL_nil, leLL_cons, leH_cons, leH_nil, leH1_box, leH1_own, leH1_gone, le_vs, le_agg, le_tup, le_ptr, le_own, le_xp, le_fn, le_opt, le_val, le_elem, le_nil_own, le_nil_vs, leH_ghost, leL_chunk, leXL_id, bnd_int, bnd_bool, bnd_val, bnd_nil, bnd_junk, bnd_vs, bnd_xp, bnd_agg, bnd_tup, bnd_ptr, bnd_own, bnd_elem, bnd_fn, bnd_iface, bnd_opt, bnd_row, bnd_rcell, bnd_imap, bnd_smp, le_row, le_rcell, le_imap, le_smp, leH1_smap, bndL_nil, bndL_cons, lenH_cons, lenH_nil, imp_self, implies_true, true_and, and_true]
      simp
    · rintro i ⟨hi, ha⟩
      dsimp only [encR, enc1, go_sem, Option.bind, Option.map, List.append_nil, Nat.beq, List.cons_append, List.nil_append, List.append_eq, List.map_cons, List.map_nil, ite_self, reduceIte]
      simp only [true_and, and_true, imp_self, implies_true, decide_eq_true_eq, decide_eq_false_iff_not, Nat.reduceAdd, Nat.reduceLeDiff, Bool.not_not, reduceCtorEq, false_imp_iff, Bool.not_eq_true', Bool.not_eq_false', Bool.false_eq_true, and_self, forall_const, ne_eq, not_false_eq_true, Nat.reduceEqDiff, Int.toNat_natCast]
      refine ⟨fun hlt => ?_, fun hge => ?_⟩
      · have hi' : i < l.length := by omega
        have hr := hx _ (getD_mem hi')
        refine ⟨⟨by omega, hlt⟩, fun _ => ⟨by omega, hlt⟩, fun he => ⟨by omega, by omega⟩, fun hc => ?_, fun hc => ?_⟩
        · rw [sq_no hi' (row_no1 hc)] at h
          exact ans_bool h
        · have hlen := row_len hc
          refine Loop.keep [1, 1] Nat (fun q => [(2, .bool false), (4, .int .i64 q)]) (fun _ => []) [] (fun q => q ≤ l.length ∧ ∀ j, j < q → inF ((l.getD i default).v.getD j default) 0 1000 = true) (fun q => l.length - q) ?_ ?_
          · refine ⟨0, ⟨Nat.zero_le _, fun j h => by omega⟩, ?_⟩
            dsimp only [go_sem, Option.bind, Option.map, List.append_nil, Nat.beq, List.cons_append, List.nil_append, List.append_eq, List.map_cons, List.map_nil, ite_self, reduceIte]
            simp only [leS_mk, leL_cons, leL_nil, le_junk, le_int, le_bool, le_nil, leLL_nil, leLL_cons, leH_cons, leH_nil, leH1_box, leH1_own, leH1_gone, le_vs, le_agg, le_tup, le_ptr, le_own, le_xp, le_fn, le_opt, le_val, le_elem, le_nil_own, le_nil_vs, leH_ghost, leL_chunk, leXL_id, bnd_int, bnd_bool, bnd_val, bnd_nil, bnd_junk, bnd_vs, bnd_xp, bnd_agg, bnd_tup, bnd_ptr, bnd_own, bnd_elem, bnd_fn, bnd_iface, bnd_opt, bnd_row, bnd_rcell, bnd_imap, bnd_smp, le_row, le_rcell, le_imap, le_smp, leH1_smap, bndL_nil, bndL_cons, lenH_cons, lenH_nil, imp_self, implies_true, true_and, and_true]
            simp
          · rintro q ⟨hq, hqa⟩
            dsimp only [enc1, go_sem, Option.bind, Option.map, List.append_nil, Nat.beq, List.cons_append, List.nil_append, List.append_eq, List.map_cons, List.map_nil, ite_self, reduceIte]
            simp only [true_and, and_true, imp_self, implies_true, decide_eq_true_eq, decide_eq_false_iff_not, Nat.reduceAdd, Nat.reduceLeDiff, Bool.not_not, reduceCtorEq, false_imp_iff, Bool.not_eq_true', Bool.not_eq_false', Bool.false_eq_true, and_self, forall_const, ne_eq, not_false_eq_true, Nat.reduceEqDiff, Int.toNat_natCast]
            refine ⟨fun hlt2 => ⟨⟨by omega, hlt⟩, ⟨by omega, by omega⟩, fun _ => ⟨by omega, hlt⟩, fun _ => ⟨by omega, by omega⟩, fun hb => ?_, fun hb => ?_⟩, fun hge => ?_⟩
            · rw [in_or] at hb
              rw [sq_no hi' (row_no2 (by omega : q < (l.getD i default).v.length) (by rw [Bool.not_eq_true'] at hb; exact hb))] at h
              exact ans_bool h
            · rw [in_or] at hb
              have hb' : inF ((l.getD i default).v.getD q default) 0 1000 = true := by rw [Bool.not_eq_false'] at hb; exact hb
              refine ⟨q + 1, ⟨by omega, lt_succ_all hqa hb'⟩, by omega, ?_⟩
              simp only [leS_mk, leL_cons, leL_nil, le_junk, le_int, le_bool, le_nil, leLL_nil, leLL_cons, leH_cons, leH_nil, leH1_box, leH1_own, leH1_gone, le_vs, le_agg, le_tup, le_ptr, le_own, le_xp, le_fn, le_opt, le_val, le_elem, le_nil_own, le_nil_vs, leH_ghost, leL_chunk, leXL_id, bnd_int, bnd_bool, bnd_val, bnd_nil, bnd_junk, bnd_vs, bnd_xp, bnd_agg, bnd_tup, bnd_ptr, bnd_own, bnd_elem, bnd_fn, bnd_iface, bnd_opt, bnd_row, bnd_rcell, bnd_imap, bnd_smp, le_row, le_rcell, le_imap, le_smp, leH1_smap, bndL_nil, bndL_cons, lenH_cons, lenH_nil, imp_self, implies_true, true_and, and_true]
              refine ⟨by omega, ?_⟩
              exact w_succ (by omega : q < l.length) (by omega)
            · obtain rfl : q = l.length := by omega
              refine ⟨i + 1, ⟨by omega, lt_succ_all ha (row_yes hc fun q hq => hqa q (by omega))⟩, by omega, ?_⟩
              simp only [leS_mk, leL_cons, leL_nil, le_junk, le_int, le_bool, le_nil, leLL_nil, leLL_cons, leH_cons, leH_nil, leH1_box, leH1_own, leH1_gone, le_vs, le_agg, le_tup, le_ptr, le_own, le_xp, le_fn, le_opt, le_val, le_elem, le_nil_own, le_nil_vs, leH_ghost, leL_chunk, leXL_id, bnd_int, bnd_bool, bnd_val, bnd_nil, bnd_junk, bnd_vs, bnd_xp, bnd_agg, bnd_tup, bnd_ptr, bnd_own, bnd_elem, bnd_fn, bnd_iface, bnd_opt, bnd_row, bnd_rcell, bnd_imap, bnd_smp, le_row, le_rcell, le_imap, le_smp, leH1_smap, bndL_nil, bndL_cons, lenH_cons, lenH_nil, imp_self, implies_true, true_and, and_true]
              exact ⟨by omega, w_succ hi' (by omega)⟩
      · obtain rfl : i = l.length := by omega
        rw [sq_yes ha] at h
        exact ans_bool h
  · exact h.1.elim
end Go.Proofs.Yteioilioobichaa

/- Tuning, walked: works. -/
/- Tuning, walked: works. -/
set_option linter.all false
namespace Go.Proofs.Yteioilioobichaa
open Go Go.Vx
set_option maxRecDepth 100000
set_option maxHeartbeats 4000000

def v27 : VF := { ntmps := 69, res := [.tmp 6], body :=
 (.seq (.region [u1 3 .box [.tm 0],
 u1 6 .mov [.cn (.bool false)]])
 (.seq (.region [u1 11 .mov [.tm 1],
 u1 12 .mov [.tm 2],
 u1 13 (.idxAddr 4) [.tm 11, .tm 12],
 u1 14 (.load true 4) [.tm 13],
 u1 7 (.alloc [(.val (.string ⟨#[]⟩)), (.int .i64 0), .nil, (.int .i64 0)]) [],
 u0 (.store 4) [.tm 7, .tm 14]])
 (.seq (.region [u1 15 (.fieldAddr 0) [.tm 7],
 u1 16 (.load false 1) [.tm 15],
 u1 17 (.call 35) [.tm 16],
 u1 18 .mov [.tm 17],
 u2 19 18 true (.fieldAddr 1) [.tm 7],
 u2 20 18 true (.load false 1) [.tm 19],
 u2 21 18 true (.fieldAddr 0) [.tm 3],
 u2 22 18 true (.load false 1) [.tm 21],
 u2 23 18 true .len [.tm 22],
 u2 24 18 true (.ari .sub) [.tm 23, .cn (.int .i64 1)],
 u2 25 18 true (.call 25) [.tm 20, .cn (.int .i64 0), .tm 24],
 u1 26 .and [.tm 18, .tm 25],
 u1 27 .mov [.tm 26],
 u2 28 27 true (.fieldAddr 3) [.tm 7],
 u2 29 27 true (.load false 1) [.tm 28],
 u2 30 27 true (.call 25) [.tm 29, .cn (.int .i64 1), .cn (.int .i64 600)],
 u1 31 .and [.tm 27, .tm 30],
 u1 8 .mov [.tm 31]])
 (.seq (.seq (.region [u1 32 (.fieldAddr 2) [.tm 7],
 u1 33 (.load false 1) [.tm 32],
 u1 34 .len [.tm 33],
 u1 35 .mov [.cn (.int .i64 0)]])
 (.block 0 (.loop (.seq (.region [u1 36 (.cmp .lss) [.tm 35, .tm 34]])
 (.seq (.cond (.tm 36) .skip
  (.exit 0))
 (.seq (.block 1 (.seq (.region [u1 37 .mov [.tm 35],
 u1 38 (.idxAddr 1) [.tm 33, .tm 35],
 u1 39 (.load false 1) [.tm 38],
 u1 9 .mov [.tm 37],
 u1 10 .mov [.tm 39]])
 (.region [u1 40 .mov [.tm 8],
 u1 41 .mov [.tm 40],
 u2 42 41 true .mov [.tm 10],
 u2 43 41 true .mov [.tm 1],
 u2 44 41 true .len [.tm 43],
 u2 45 41 true (.ari .sub) [.tm 44, .cn (.int .i64 1)],
 u2 46 41 true (.call 25) [.tm 42, .cn (.int .i64 0), .tm 45],
 u1 47 .and [.tm 41, .tm 46],
 u1 48 .mov [.tm 47],
 u2 49 48 true .mov [.tm 10],
 u2 50 48 true .mov [.tm 2],
 u2 51 48 true (.cmp .neq) [.tm 49, .tm 50],
 u1 52 .and [.tm 48, .tm 51],
 u1 53 .mov [.tm 52],
 u2 54 53 true .mov [.tm 9],
 u2 55 53 true (.cmp .eql) [.tm 54, .cn (.int .i64 0)],
 u2 56 53 true .mov [.tm 55],
 u2 57 56 false (.fieldAddr 2) [.tm 7],
 u2 58 56 false (.load false 1) [.tm 57],
 u2 59 56 false .mov [.tm 9],
 u2 60 56 false (.ari .sub) [.tm 59, .cn (.int .i64 1)],
 u2 61 56 false (.idxAddr 1) [.tm 58, .tm 60],
 u2 62 56 false (.load false 1) [.tm 61],
 u2 63 56 false .mov [.tm 10],
 u2 64 56 false (.cmp .lss) [.tm 62, .tm 63],
 u2 65 53 true .or [.tm 56, .tm 64],
 u1 66 .and [.tm 53, .tm 65],
 u1 8 .mov [.tm 66]])))
 (.region [u1 67 (.ari .add) [.tm 35, .cn (.int .i64 1)],
 u1 35 .mov [.tm 67]])))))))
 (.seq (.region [u1 68 .mov [.tm 8],
 u1 6 .mov [.tm 68]])
 .ret))))) }
theorem v27_is : vfunc Try.prog Try.f27 = some v27 := by kernel_rfl
def v31 : VF := { ntmps := 86, res := [.tmp 8], body :=
 (.seq (.region [u1 4 .box [.tm 0],
 u1 5 .box [.tm 1],
 u1 8 .mov [.cn (.bool false)]])
 (.seq (.seq (.region [u1 10 (.fieldAddr 0) [.tm 5],
 u1 11 (.load false 1) [.tm 10],
 u1 12 (.call 36) [.tm 11],
 u1 13 .not [.tm 12],
 u1 14 .mov [.tm 13],
 u2 15 14 false (.fieldAddr 1) [.tm 5],
 u2 16 14 false (.load false 1) [.tm 15],
 u2 17 14 false (.cmp .lss) [.tm 16, .cn (.int .i64 0)],
 u1 18 .or [.tm 14, .tm 17],
 u1 19 .mov [.tm 18],
 u2 20 19 false (.fieldAddr 1) [.tm 5],
 u2 21 19 false (.load false 1) [.tm 20],
 u2 22 19 false (.fieldAddr 0) [.tm 4],
 u2 23 19 false (.load false 1) [.tm 22],
 u2 24 19 false .len [.tm 23],
 u2 25 19 false (.cmp .geq) [.tm 21, .tm 24],
 u1 26 .or [.tm 19, .tm 25],
 u1 27 .mov [.tm 26],
 u2 28 27 false (.fieldAddr 3) [.tm 5],
 u2 29 27 false (.load false 1) [.tm 28],
 u2 30 27 false (.cmp .lss) [.tm 29, .cn (.int .i64 1)],
 u1 31 .or [.tm 27, .tm 30],
 u1 32 .mov [.tm 31],
 u2 33 32 false (.fieldAddr 3) [.tm 5],
 u2 34 32 false (.load false 1) [.tm 33],
 u2 35 32 false (.cmp .gtr) [.tm 34, .cn (.int .i64 600)],
 u1 36 .or [.tm 32, .tm 35]])
 (.cond (.tm 36) (.seq (.region [u1 8 .mov [.cn (.bool false)]])
 .ret)
  .skip))
 (.seq (.seq (.region [u1 9 .mov [.cn (.int .i64 0)]])
 (.block 0 (.loop (.seq (.seq (.region [u1 37 .mov [.tm 9],
 u1 38 (.fieldAddr 2) [.tm 5],
 u1 39 (.load false 1) [.tm 38],
 u1 40 .len [.tm 39],
 u1 41 (.cmp .lss) [.tm 37, .tm 40]])
 (.cond (.tm 41) .skip
  (.exit 0)))
 (.seq (.block 1 (.seq (.draw [] [w1 44 (.fieldAddr 2) [.tm 5],
 w1 45 (.load false 1) [.tm 44],
 w1 46 .mov [.tm 9],
 w1 47 (.idxAddr 1) [.tm 45, .tm 46],
 w1 48 (.load false 1) [.tm 47],
 w1 49 (.cmp .lss) [.tm 48, .cn (.int .i64 0)],
 w1 50 .mov [.tm 49],
 ⟨u2 51 50 false (.fieldAddr 2) [.tm 5], []⟩,
 ⟨u2 52 50 false (.load false 1) [.tm 51], []⟩,
 ⟨u2 53 50 false .mov [.tm 9], []⟩,
 ⟨u2 54 50 false (.idxAddr 1) [.tm 52, .tm 53], []⟩,
 ⟨u2 55 50 false (.load false 1) [.tm 54], []⟩,
 ⟨u2 56 50 false .mov [.tm 3], []⟩,
 ⟨u2 57 50 false (.cmp .geq) [.tm 55, .tm 56], []⟩,
 w1 58 .or [.tm 50, .tm 57],
 w1 59 .mov [.tm 58],
 ⟨u2 60 59 false (.fieldAddr 2) [.tm 5], []⟩,
 ⟨u2 61 59 false (.load false 1) [.tm 60], []⟩,
 ⟨u2 62 59 false .mov [.tm 9], []⟩,
 ⟨u2 63 59 false (.idxAddr 1) [.tm 61, .tm 62], []⟩,
 ⟨u2 64 59 false (.load false 1) [.tm 63], []⟩,
 ⟨u2 65 59 false .mov [.tm 2], []⟩,
 ⟨u2 66 59 false (.cmp .eql) [.tm 64, .tm 65], []⟩,
 w1 67 .or [.tm 59, .tm 66],
 w1 68 .mov [.tm 67],
 ⟨u2 69 68 false .mov [.tm 9], []⟩,
 ⟨u2 70 68 false (.cmp .gtr) [.tm 69, .cn (.int .i64 0)], []⟩,
 ⟨u2 71 68 false .mov [.tm 70], []⟩,
 ⟨u2 72 71 true (.fieldAddr 2) [.tm 5], []⟩,
 ⟨u2 73 71 true (.load false 1) [.tm 72], []⟩,
 ⟨u2 74 71 true .mov [.tm 9], []⟩,
 ⟨u2 75 71 true (.ari .sub) [.tm 74, .cn (.int .i64 1)], []⟩,
 ⟨u2 76 71 true (.idxAddr 1) [.tm 73, .tm 75], []⟩,
 ⟨u2 77 71 true (.load false 1) [.tm 76], []⟩,
 ⟨u2 78 71 true (.fieldAddr 2) [.tm 5], []⟩,
 ⟨u2 79 71 true (.load false 1) [.tm 78], []⟩,
 ⟨u2 80 71 true .mov [.tm 9], []⟩,
 ⟨u2 81 71 true (.idxAddr 1) [.tm 79, .tm 80], []⟩,
 ⟨u2 82 71 true (.load false 1) [.tm 81], []⟩,
 ⟨u2 83 71 true (.cmp .geq) [.tm 77, .tm 82], []⟩,
 ⟨u2 84 68 false .and [.tm 71, .tm 83], []⟩,
 w1 85 .or [.tm 68, .tm 84]])
 (.cond (.tm 85) (.seq (.region [u1 8 .mov [.cn (.bool false)]])
 .ret)
  .skip)))
 (.region [u1 42 .mov [.tm 9],
 u1 43 (.ari .add) [.tm 42, .cn (.int .i64 1)],
 u1 9 .mov [.tm 43]]))))))
 (.seq (.region [u1 8 .mov [.cn (.bool true)]])
 .ret)))) }
theorem v31_is : vfunc Try.prog Try.f31 = some v31 := by kernel_rfl

/-- A work at index i of a list. -/
def valC : Ctr := { alias := false, of := fun l => match l with
  | [.agg [.vs _ _ n sz get], .vs _ _ n' sz' get', .int .i64 i] => .ex Hal fun h => .ex (List Wk) fun l => .ex Nat fun I => .pre (lsP 1 encR n sz get h ∧ lsP 4 encK n' sz' get' l ∧ (i = I ∧ I < l.length) ∧ (h.length ≤ 1000000000000 ∧ l.length ≤ 1000000000000) ∧ (∀ x ∈ l, x.af.v.length ≤ 1000000000000 ∧ x.nm.size ≤ 9223372036854775807)) (.fin (.bool (wkF h l.length (l.getD I default) I)) [])
  | _ => noC }
def TC0 : Env := { ct := fun n => match n with | 25 => some inC | 35 => some nameC | _ => none, fn := fun _ => none, meth := fun _ _ => none }
theorem TC0_ct25 : TC0.ct 25 = some inC := rfl
theorem TC0_ct35 : TC0.ct 35 = some nameC := rfl
theorem TC0_ok : EnvOk Try.prog TC0 := by
  refine ⟨fun f c h => ?_, fun f vf h => ?_, (fun _ _ _ h => by cases h), by kernel_rfl⟩
  · simp only [TC0] at h
    split at h
    · cases h; exact ⟨in_ok, Try.f25, Try.func25, by kernel_rfl, by kernel_rfl⟩
    · cases h; exact ⟨name_ok, Try.f35, Try.func35, by kernel_rfl, by kernel_rfl⟩
    · cases h
  · cases h

theorem val_ok : valC.ok Try.prog 27 := by
  refine contract Try.func27 v27_is TC0_ok 300 valC fun args k h => ?_
  simp only [valC] at h
  split at h
  · rename_i t z n sz get t' z' n' sz' get' i
    obtain ⟨h0, l, I, ⟨⟨rfl, rfl, hg⟩, ⟨rfl, rfl, hg'⟩, ⟨rfl, hI⟩, ⟨hl0, hl⟩, hx⟩, h⟩ := h
    have h : k _ [] := h
    obtain ⟨hx1, hx2⟩ := hx _ (getD_mem hI)
    refine ⟨[.agg [.vs false z h0.length 1 (fun k => encR (h0.getD k default))], .vs false z' l.length 4 (fun k => encK (l.getD k default)), .int .i64 I], ⟨⟨⟨fun h => (by cases h), rfl, rfl, rfl, hg⟩, trivial⟩, ⟨fun h => (by cases h), rfl, rfl, rfl, hg'⟩, ⟨rfl, rfl⟩, trivial⟩, ?_⟩
    dsimp only [v27, TC0_ct25, TC0_ct35, inC, nameC, encK, encR, go_sem, Option.bind, Option.map, List.append_nil, Nat.beq, List.cons_append, List.nil_append, List.append_eq, List.map_cons, List.map_nil, ite_self, reduceIte]
    simp only [true_and, and_true, imp_self, implies_true, decide_eq_true_eq, decide_eq_false_iff_not, Nat.reduceAdd, Nat.reduceLeDiff, Bool.not_not, reduceCtorEq, false_imp_iff, Bool.not_eq_true', Bool.not_eq_false', Bool.false_eq_true, and_self, forall_const, ne_eq, not_false_eq_true, Nat.reduceEqDiff, Int.toNat_natCast]
    refine ⟨⟨by omega, by omega⟩, rfl, hx2, ?_⟩
    rw [w6_raw (x := (h0.length : Int) - 1) (by omega) (by omega)]
    refine Loop.keep [0, 0, 0, 0, 3, 25, 0] Nat (fun q => [(6, .bool false), (8, .bool (wkB h0 (l.getD I default) && afAll l.length I (l.getD I default).af.v q)), (35, .int .i64 q)]) (fun _ => []) [] (fun q => q ≤ (l.getD I default).af.v.length) (fun q => (l.getD I default).af.v.length - q) ?_ ?_
    · refine ⟨0, Nat.zero_le _, ?_⟩
      dsimp only [go_sem, Option.bind, Option.map, List.append_nil, Nat.beq, List.cons_append, List.nil_append, List.append_eq, List.map_cons, List.map_nil, ite_self, reduceIte]
      simp only [leS_mk, leL_cons, leL_nil, le_junk, le_int, le_bool, le_nil, leLL_nil, leLL_cons, leH_cons, leH_nil, leH1_box, leH1_own, leH1_gone, le_vs, le_agg, le_tup, le_ptr, le_own, le_xp, le_fn, le_opt, le_val, le_elem, le_nil_own, le_nil_vs, leH_ghost, leL_chunk, leXL_id, bnd_int, bnd_bool, bnd_val, bnd_nil, bnd_junk, bnd_vs, bnd_xp, bnd_agg, bnd_tup, bnd_ptr, bnd_own, bnd_elem, bnd_fn, bnd_iface, bnd_opt, bnd_row, bnd_rcell, bnd_imap, bnd_smp, le_row, le_rcell, le_imap, le_smp, leH1_smap, bndL_nil, bndL_cons, lenH_cons, lenH_nil, imp_self, implies_true, true_and, and_true]
      simp [wkB, afAll]
    · rintro q hq
      dsimp only [TC0_ct25, inC, enc1, go_sem, Option.bind, Option.map, List.append_nil, Nat.beq, List.cons_append, List.nil_append, List.append_eq, List.map_cons, List.map_nil, ite_self, reduceIte]
      simp only [true_and, and_true, imp_self, implies_true, decide_eq_true_eq, decide_eq_false_iff_not, Nat.reduceAdd, Nat.reduceLeDiff, Bool.not_not, reduceCtorEq, false_imp_iff, Bool.not_eq_true', Bool.not_eq_false', Bool.false_eq_true, and_self, forall_const, ne_eq, not_false_eq_true, Nat.reduceEqDiff, Int.toNat_natCast]
      rw [w6_raw (x := (l.length : Int) - 1) (by omega) (by omega)]
      refine ⟨fun hlt => ⟨⟨by omega, hlt⟩, fun hc => ?_, fun a b => by rw [a, decide_eq_false b]; rfl, q + 1, by omega, by omega, ?_⟩, fun hge => ?_⟩
      · have h0 : ¬ (q : Int) = 0 := by
          intro h0
          rw [decide_eq_true h0] at hc
          simp at hc
        rw [w6_raw (by omega) (by omega)]
        omega
      · simp only [leS_mk, leL_cons, leL_nil, le_junk, le_int, le_bool, le_nil, leLL_nil, leLL_cons, leH_cons, leH_nil, leH1_box, leH1_own, leH1_gone, le_vs, le_agg, le_tup, le_ptr, le_own, le_xp, le_fn, le_opt, le_val, le_elem, le_nil_own, le_nil_vs, leH_ghost, leL_chunk, leXL_id, bnd_int, bnd_bool, bnd_val, bnd_nil, bnd_junk, bnd_vs, bnd_xp, bnd_agg, bnd_tup, bnd_ptr, bnd_own, bnd_elem, bnd_fn, bnd_iface, bnd_opt, bnd_row, bnd_rcell, bnd_imap, bnd_smp, le_row, le_rcell, le_imap, le_smp, leH1_smap, bndL_nil, bndL_cons, lenH_cons, lenH_nil, imp_self, implies_true, true_and, and_true]
        rw [af_step (by omega), afAll_succ, Bool.and_assoc]
        exact ⟨by omega, by omega, rfl, w_succ (by omega : q < (l.getD I default).af.v.length) (by omega)⟩
      · obtain rfl : q = (l.getD I default).af.v.length := by omega
        rw [wkF_eq] at h
        exact ans_bool h
  · exact h.1.elim
/-- The reference asks of one work. -/
def workC : Ctr := { alias := false, of := fun l => match l with
  | [.agg [.vs _ _ n sz get], .agg [.val (.string nm), .int .i64 pl, .vs _ _ n' sz' get', .int .i64 mi], .int .i64 i, .int .i64 m] => .ex Hal fun h => .ex (List Int) fun af => .ex Nat fun I => .ex Nat fun M => .pre (lsP 1 encR n sz get h ∧ lsP 1 enc1 n' sz' get' af ∧ (i = I ∧ I ≤ 1000000000000 ∧ m = M ∧ M ≤ 1000000000000) ∧ h.length ≤ 1000000000000 ∧ af.length ≤ 1000000000000 ∧ nm.size ≤ 9223372036854775807) (.fin (.bool (wkF h M ⟨nm, pl, ⟨false, af⟩, mi⟩ I)) [])
  | _ => noC }
def TC1 : Env := { ct := fun n => match n with | 36 => some nameC | _ => none, fn := fun _ => none, meth := fun _ _ => none }
theorem TC1_ct36 : TC1.ct 36 = some nameC := rfl
theorem TC1_ok : EnvOk Try.prog TC1 := by
  refine ⟨fun f c h => ?_, fun f vf h => ?_, (fun _ _ _ h => by cases h), by kernel_rfl⟩
  · simp only [TC1] at h
    split at h
    · cases h; exact ⟨rname_ok, Try.f36, Try.func36, by kernel_rfl, by kernel_rfl⟩
    · cases h
  · cases h

theorem work_ok : workC.ok Try.prog 31 := by
  refine contract Try.func31 v31_is TC1_ok 300 workC fun args k h => ?_
  simp only [workC] at h
  split at h
  · rename_i t z n sz get nm pl t' z' n' sz' get' mi i m
    obtain ⟨h0, af, I, M, ⟨⟨rfl, rfl, hg⟩, ⟨rfl, rfl, hg'⟩, ⟨rfl, hI, rfl, hM⟩, hl0, hl, hx2⟩, h⟩ := h
    have h : k _ [] := h
    refine ⟨[.agg [.vs false z h0.length 1 (fun k => encR (h0.getD k default))], .agg [.val (.string nm), .int .i64 pl, .vs false z' af.length 1 (fun k => enc1 (af.getD k default)), .int .i64 mi], .int .i64 I, .int .i64 M], ⟨⟨⟨fun h => (by cases h), rfl, rfl, rfl, hg⟩, trivial⟩, ⟨⟨rfl, trivial⟩, ⟨rfl, rfl⟩, ⟨fun h => (by cases h), rfl, rfl, rfl, hg'⟩, ⟨rfl, rfl⟩, trivial⟩, ⟨rfl, rfl⟩, ⟨rfl, rfl⟩, trivial⟩, ?_⟩
    dsimp only [v31, TC1_ct36, nameC, encR, go_sem, Option.bind, Option.map, List.append_nil, Nat.beq, List.cons_append, List.nil_append, List.append_eq, List.map_cons, List.map_nil, ite_self, reduceIte]
    simp only [true_and, and_true, imp_self, implies_true, decide_eq_true_eq, decide_eq_false_iff_not, Nat.reduceAdd, Nat.reduceLeDiff, Bool.not_not, reduceCtorEq, false_imp_iff, Bool.not_eq_true', Bool.not_eq_false', Bool.false_eq_true, and_self, forall_const, ne_eq, not_false_eq_true, Nat.reduceEqDiff, Int.toNat_natCast]
    refine ⟨rfl, hx2, fun hc => ?_, fun hc => ?_⟩
    · rw [wkB_not (x := ⟨nm, pl, ⟨false, af⟩, mi⟩)] at hc
      rw [wk_noB (by rw [Bool.not_eq_true'] at hc; exact hc)] at h
      exact ans_bool h
    · rw [wkB_not (x := ⟨nm, pl, ⟨false, af⟩, mi⟩)] at hc
      have hB : wkB h0 ⟨nm, pl, ⟨false, af⟩, mi⟩ = true := by rw [Bool.not_eq_false'] at hc; exact hc
      refine Loop.keep [2, 0, 0, 0] Nat (fun q => [(8, .bool false), (9, .int .i64 q)]) (fun _ => []) [] (fun q => q ≤ af.length ∧ ∀ j, j < q → afOk M I af j = true) (fun q => af.length - q) ?_ ?_
      · refine ⟨0, ⟨Nat.zero_le _, fun j h => by omega⟩, ?_⟩
        dsimp only [go_sem, Option.bind, Option.map, List.append_nil, Nat.beq, List.cons_append, List.nil_append, List.append_eq, List.map_cons, List.map_nil, ite_self, reduceIte]
        simp only [leS_mk, leL_cons, leL_nil, le_junk, le_int, le_bool, le_nil, leLL_nil, leLL_cons, leH_cons, leH_nil, leH1_box, leH1_own, leH1_gone, le_vs, le_agg, le_tup, le_ptr, le_own, le_xp, le_fn, le_opt, le_val, le_elem, le_nil_own, le_nil_vs, leH_ghost, leL_chunk, leXL_id, bnd_int, bnd_bool, bnd_val, bnd_nil, bnd_junk, bnd_vs, bnd_xp, bnd_agg, bnd_tup, bnd_ptr, bnd_own, bnd_elem, bnd_fn, bnd_iface, bnd_opt, bnd_row, bnd_rcell, bnd_imap, bnd_smp, le_row, le_rcell, le_imap, le_smp, leH1_smap, bndL_nil, bndL_cons, lenH_cons, lenH_nil, imp_self, implies_true, true_and, and_true]
        simp
      · rintro q ⟨hq, hqa⟩
        dsimp only [enc1, go_sem, Option.bind, Option.map, List.append_nil, Nat.beq, List.cons_append, List.nil_append, List.append_eq, List.map_cons, List.map_nil, ite_self, reduceIte]
        simp only [true_and, and_true, imp_self, implies_true, decide_eq_true_eq, decide_eq_false_iff_not, Nat.reduceAdd, Nat.reduceLeDiff, Bool.not_not, reduceCtorEq, false_imp_iff, Bool.not_eq_true', Bool.not_eq_false', Bool.false_eq_true, and_self, forall_const, ne_eq, not_false_eq_true, Nat.reduceEqDiff, Int.toNat_natCast]
        refine ⟨fun hlt => ⟨⟨by omega, hlt⟩, fun _ => ⟨by omega, hlt⟩, fun _ => ⟨by omega, hlt⟩, fun hc => ?_, fun _ => ⟨by omega, hlt⟩, fun a b => by rw [a, decide_eq_true b]; rfl, fun hb => ?_, fun hb => ?_⟩, fun hge => ?_⟩
        · have h0 : 0 < (q : Int) := by
            simp only [Bool.and_eq_true, decide_eq_true_eq] at hc
            exact hc.2
          rw [w6_raw (by omega) (by omega)]
          omega
        · rw [af_not (by omega)] at hb
          rw [wk_noA (x := ⟨nm, pl, ⟨false, af⟩, mi⟩) (by omega : q < af.length) (by rw [Bool.not_eq_true'] at hb; exact hb)] at h
          exact ans_bool h
        · rw [af_not (by omega)] at hb
          have hb' : afOk M I af q = true := by rw [Bool.not_eq_false'] at hb; exact hb
          refine ⟨q + 1, ⟨by omega, lt_succ_all hqa hb'⟩, by omega, ?_⟩
          simp only [leS_mk, leL_cons, leL_nil, le_junk, le_int, le_bool, le_nil, leLL_nil, leLL_cons, leH_cons, leH_nil, leH1_box, leH1_own, leH1_gone, le_vs, le_agg, le_tup, le_ptr, le_own, le_xp, le_fn, le_opt, le_val, le_elem, le_nil_own, le_nil_vs, leH_ghost, leL_chunk, leXL_id, bnd_int, bnd_bool, bnd_val, bnd_nil, bnd_junk, bnd_vs, bnd_xp, bnd_agg, bnd_tup, bnd_ptr, bnd_own, bnd_elem, bnd_fn, bnd_iface, bnd_opt, bnd_row, bnd_rcell, bnd_imap, bnd_smp, le_row, le_rcell, le_imap, le_smp, leH1_smap, bndL_nil, bndL_cons, lenH_cons, lenH_nil, imp_self, implies_true, true_and, and_true]
          exact ⟨by omega, by omega, w_succ (by omega : q < af.length) (by omega)⟩
        · obtain rfl : q = af.length := by omega
          rw [wk_yes hB hqa] at h
          exact ans_bool h
  · exact h.1.elim
def encB (b : Bool) : List SV := [.bool b]
def readyC : Ctr := { alias := false, of := fun l => match l with
  | [.vs _ _ n sz get, .vs _ _ n' sz' get'] => .ex (List Int) fun af => .ex (List Bool) fun G => .pre (lsP 1 enc1 n sz get af ∧ lsP 1 encB n' sz' get' G ∧ af.length ≤ 1000000000000 ∧ ∀ a ∈ af, 0 ≤ a ∧ a < G.length) (.fin (.bool (af.all fun a => G.getD a.toNat default)) [])
  | _ => noC }
theorem ready_ok : readyC.ok Try.prog 32 := by
  refine contract Try.func32 v32_is TB1_ok 200 readyC fun args k h => ?_
  simp only [readyC] at h
  split at h
  · rename_i t z n sz get t' z' n' sz' get'
    obtain ⟨af, G, ⟨⟨rfl, rfl, hg⟩, ⟨rfl, rfl, hg'⟩, hl, hx⟩, h⟩ := h
    have h : k _ [] := h
    refine ⟨[.vs false z af.length 1 (fun k => enc1 (af.getD k default)), .vs false z' G.length 1 (fun k => encB (G.getD k default))], ⟨⟨fun h => (by cases h), rfl, rfl, rfl, hg⟩, ⟨fun h => (by cases h), rfl, rfl, rfl, hg'⟩, trivial⟩, ?_⟩
    dsimp only [v32, go_sem, Option.bind, Option.map, List.append_nil, Nat.beq, List.cons_append, List.nil_append, List.append_eq, List.map_cons, List.map_nil, ite_self, reduceIte]
    simp only [true_and, and_true, imp_self, implies_true, decide_eq_true_eq, decide_eq_false_iff_not, Nat.reduceAdd, Nat.reduceLeDiff, Bool.not_not, reduceCtorEq, false_imp_iff, Bool.not_eq_true', Bool.not_eq_false', Bool.false_eq_true, and_self, forall_const, ne_eq, not_false_eq_true, Nat.reduceEqDiff]
    refine Loop.keep [0, 0] Nat (fun q => [(4, .bool false), (5, .int .i64 q)]) (fun _ => []) [] (fun q => q ≤ af.length ∧ ∀ j, j < q → G.getD (af.getD j default).toNat default = true) (fun q => af.length - q) ?_ ?_
    · refine ⟨0, ⟨Nat.zero_le _, fun j h => by omega⟩, ?_⟩
      dsimp only [go_sem, Option.bind, Option.map, List.append_nil, Nat.beq, List.cons_append, List.nil_append, List.append_eq, List.map_cons, List.map_nil, ite_self, reduceIte]
      simp only [leS_mk, leL_cons, leL_nil, le_junk, le_int, le_bool, le_nil, leLL_nil, leLL_cons, leH_cons, leH_nil, leH1_box, leH1_own, leH1_gone, le_vs, le_agg, le_tup, le_ptr, le_own, le_xp, le_fn, le_opt, le_val, le_elem, le_nil_own, le_nil_vs, leH_ghost, leL_chunk, leXL_id, bnd_int, bnd_bool, bnd_val, bnd_nil, bnd_junk, bnd_vs, bnd_xp, bnd_agg, bnd_tup, bnd_ptr, bnd_own, bnd_elem, bnd_fn, bnd_iface, bnd_opt, bnd_row, bnd_rcell, bnd_imap, bnd_smp, le_row, le_rcell, le_imap, le_smp, leH1_smap, bndL_nil, bndL_cons, lenH_cons, lenH_nil, imp_self, implies_true, true_and, and_true]
      simp
    · rintro q ⟨hq, hqa⟩
      dsimp only [enc1, encB, go_sem, Option.bind, Option.map, List.append_nil, Nat.beq, List.cons_append, List.nil_append, List.append_eq, List.map_cons, List.map_nil, ite_self, reduceIte]
      simp only [true_and, and_true, imp_self, implies_true, decide_eq_true_eq, decide_eq_false_iff_not, Nat.reduceAdd, Nat.reduceLeDiff, Bool.not_not, reduceCtorEq, false_imp_iff, Bool.not_eq_true', Bool.not_eq_false', Bool.false_eq_true, and_self, forall_const, ne_eq, not_false_eq_true, Nat.reduceEqDiff, Int.toNat_natCast]
      refine ⟨fun hlt => ?_, fun hge => ?_⟩
      · have hq' : q < af.length := by omega
        obtain ⟨a0, a1⟩ := hx _ (getD_mem hq')
        refine ⟨⟨by omega, hlt⟩, ⟨a0, a1⟩, fun hb => ?_, fun hb => ?_⟩
        · have e : (af.all fun a => G.getD a.toNat default) = false := by
            rw [List.all_eq_false]; exact ⟨_, getD_mem hq', by rw [hb]; simp⟩
          rw [e] at h
          exact ans_bool h
        · refine ⟨q + 1, ⟨by omega, lt_succ_all hqa hb⟩, by omega, ?_⟩
          simp only [leS_mk, leL_cons, leL_nil, le_junk, le_int, le_bool, le_nil, leLL_nil, leLL_cons, leH_cons, leH_nil, leH1_box, leH1_own, leH1_gone, le_vs, le_agg, le_tup, le_ptr, le_own, le_xp, le_fn, le_opt, le_val, le_elem, le_nil_own, le_nil_vs, leH_ghost, leL_chunk, leXL_id, bnd_int, bnd_bool, bnd_val, bnd_nil, bnd_junk, bnd_vs, bnd_xp, bnd_agg, bnd_tup, bnd_ptr, bnd_own, bnd_elem, bnd_fn, bnd_iface, bnd_opt, bnd_row, bnd_rcell, bnd_imap, bnd_smp, le_row, le_rcell, le_imap, le_smp, leH1_smap, bndL_nil, bndL_cons, lenH_cons, lenH_nil, imp_self, implies_true, true_and, and_true]
          exact w_succ hq' (by omega)
      · obtain rfl : q = af.length := by omega
        have e : (af.all fun a => G.getD a.toNat default) = true := by
          rw [List.all_eq_true]; intro a ha
          obtain ⟨j, hj, rfl⟩ := mem_getD ha
          exact hqa j hj
        rw [e] at h
        exact ans_bool h
  · exact h.1.elim
end Go.Proofs.Yteioilioobichaa

/- Tuning, walked: Check. -/
/- Tuning, walked: Check. -/
set_option linter.all false
namespace Go.Proofs.Yteioilioobichaa
open Go Go.Vx
set_option maxRecDepth 100000
set_option maxHeartbeats 4000000

def v13 : VF := { ntmps := 77, res := [.tmp 4], body :=
 (.seq (.region [u1 2 .box [.tm 0],
 u1 4 .mov [.cn (.int .i64 0)]])
 (.seq (.seq (.region [u1 11 (.fieldAddr 0) [.tm 2],
 u1 12 (.load false 1) [.tm 11],
 u1 13 .len [.tm 12],
 u1 14 (.cmp .gtr) [.tm 13, .cn (.int .i64 12)],
 u1 15 .mov [.tm 14],
 u2 16 15 false .mov [.tm 1],
 u2 17 15 false .len [.tm 16],
 u2 18 15 false (.cmp .gtr) [.tm 17, .cn (.int .i64 12)],
 u1 19 .or [.tm 15, .tm 18]])
 (.cond (.tm 19) (.seq (.region [u1 4 .mov [.cn (.int .i64 3)]])
 .ret)
  .skip))
 (.seq (.region [u1 20 (.load true 1) [.tm 2],
 u1 21 (.call 26) [.tm 20],
 u1 5 .mov [.tm 21]])
 (.seq (.region [u1 22 .mov [.tm 1],
 u1 23 .len [.tm 22],
 u1 24 .mkSet [.tm 23],
 u1 6 .mov [.tm 24]])
 (.seq (.seq (.region [u1 25 .mov [.tm 1],
 u1 26 .len [.tm 25],
 u1 27 .mov [.cn (.int .i64 0)]])
 (.block 0 (.loop (.seq (.region [u1 28 (.cmp .lss) [.tm 27, .tm 26]])
 (.seq (.cond (.tm 28) .skip
  (.exit 0))
 (.seq (.block 1 (.seq (.region [u1 29 .mov [.tm 27],
 u1 30 (.idxAddr 4) [.tm 25, .tm 27],
 u1 31 (.load true 4) [.tm 30],
 u1 8 (.alloc [(.val (.string ⟨#[]⟩)), (.int .i64 0), .nil, (.int .i64 0)]) [],
 u1 7 .mov [.tm 29],
 u0 (.store 4) [.tm 8, .tm 31]])
 (.seq (.region [u1 32 .mov [.tm 5],
 u1 33 .mov [.tm 32],
 u2 34 33 true (.load true 1) [.tm 2],
 u2 35 33 true .mov [.tm 1],
 u2 36 33 true .mov [.tm 7],
 u2 37 33 true (.call 27) [.tm 34, .tm 35, .tm 36],
 u1 38 .and [.tm 33, .tm 37],
 u1 5 .mov [.tm 38]])
 (.region [u1 39 .mov [.tm 6],
 u1 40 (.fieldAddr 0) [.tm 8],
 u1 41 (.load false 1) [.tm 40],
 u1 42 (.build [] []) [],
 u0 .setAdd [.tm 39, .tm 41, .tm 42]]))))
 (.region [u1 43 (.ari .add) [.tm 27, .cn (.int .i64 1)],
 u1 27 .mov [.tm 43]])))))))
 (.seq (.seq (.region [u1 44 .mov [.tm 5],
 u1 45 .not [.tm 44]])
 (.cond (.tm 45) (.seq (.region [u1 4 .mov [.cn (.int .i64 2)]])
 .ret)
  .skip))
 (.seq (.seq (.region [u1 46 .mov [.tm 6],
 u1 47 .lenSet [.tm 46],
 u1 48 .mov [.tm 1],
 u1 49 .len [.tm 48],
 u1 50 (.cmp .lss) [.tm 47, .tm 49]])
 (.cond (.tm 50) (.seq (.region [u1 4 .mov [.cn (.int .i64 8)]])
 .ret)
  .skip))
 (.seq (.region [u1 9 .mov [.cn (.int .u64 0)]])
 (.seq (.seq (.region [u1 51 .mov [.tm 1],
 u1 52 .len [.tm 51],
 u1 53 .mov [.cn (.int .i64 0)]])
 (.block 2 (.loop (.seq (.region [u1 54 (.cmp .lss) [.tm 53, .tm 52]])
 (.seq (.cond (.tm 54) .skip
  (.exit 2))
 (.seq (.block 3 (.seq (.region [u1 55 .mov [.tm 1],
 u1 56 .len [.tm 55],
 u1 57 .mov [.cn (.int .i64 0)]])
 (.block 4 (.loop (.seq (.region [u1 58 (.cmp .lss) [.tm 57, .tm 56]])
 (.seq (.cond (.tm 58) .skip
  (.exit 4))
 (.seq (.block 5 (.seq (.region [u1 59 .mov [.tm 57],
 u1 10 .mov [.tm 59]])
 (.seq (.region [u1 60 .mov [.tm 9],
 u1 61 .mov [.tm 1],
 u1 62 .mov [.tm 10],
 u1 63 (.call 28) [.tm 60, .tm 61, .tm 62]])
 (.cond (.tm 63) (.region [u1 64 .mov [.tm 9],
 u1 65 .mov [.tm 10],
 u1 66 (.buildSlice 1 1 [(.int .i64 0)] [(0, 1)]) [.tm 65],
 u1 67 (.call 29) [.tm 66],
 u1 68 (.bit .or) [.tm 64, .tm 67],
 u1 9 .mov [.tm 68]])
  .skip))))
 (.region [u1 69 (.ari .add) [.tm 57, .cn (.int .i64 1)],
 u1 57 .mov [.tm 69]]))))))))
 (.region [u1 70 (.ari .add) [.tm 53, .cn (.int .i64 1)],
 u1 53 .mov [.tm 70]])))))))
 (.seq (.seq (.region [u1 71 .mov [.tm 9],
 u1 72 .mov [.tm 1],
 u1 73 .len [.tm 72],
 u1 74 .shl [.cn (.int .u64 1), .tm 73],
 u1 75 (.ari .sub) [.tm 74, .cn (.int .u64 1)],
 u1 76 (.cmp .neq) [.tm 71, .tm 75]])
 (.cond (.tm 76) (.seq (.region [u1 4 .mov [.cn (.int .i64 260)]])
 .ret)
  .skip))
 (.seq (.region [u1 4 .mov [.cn (.int .i64 0)]])
 .ret))))))))))) }
theorem v13_is : vfunc Try.prog Try.f13 = some v13 := by kernel_rfl
def v14 : VF := { ntmps := 104, res := [.tmp 4], body :=
 (.seq (.region [u1 2 .box [.tm 0],
 u1 4 .mov [.cn (.int .i64 0)]])
 (.seq (.seq (.region [u1 12 (.fieldAddr 0) [.tm 2],
 u1 13 (.load false 1) [.tm 12],
 u1 14 .len [.tm 13],
 u1 15 (.cmp .gtr) [.tm 14, .cn (.int .i64 12)],
 u1 16 .mov [.tm 15],
 u2 17 16 false .mov [.tm 1],
 u2 18 16 false .len [.tm 17],
 u2 19 16 false (.cmp .gtr) [.tm 18, .cn (.int .i64 12)],
 u1 20 .or [.tm 16, .tm 19]])
 (.cond (.tm 20) (.seq (.region [u1 4 .mov [.cn (.int .i64 3)]])
 .ret)
  .skip))
 (.seq (.seq (.region [u1 21 (.load true 1) [.tm 2],
 u1 22 (.call 30) [.tm 21],
 u1 23 .not [.tm 22]])
 (.cond (.tm 23) (.seq (.region [u1 4 .mov [.cn (.int .i64 2)]])
 .ret)
  .skip))
 (.seq (.seq (.region [u1 5 .mov [.cn (.int .i64 0)]])
 (.block 0 (.loop (.seq (.seq (.region [u1 24 .mov [.tm 5],
 u1 25 .mov [.tm 1],
 u1 26 .len [.tm 25],
 u1 27 (.cmp .lss) [.tm 24, .tm 26]])
 (.cond (.tm 27) .skip
  (.exit 0)))
 (.seq (.block 1 (.seq (.draw [] [w1 30 (.load true 1) [.tm 2],
 w1 31 .mov [.tm 1],
 w1 32 .mov [.tm 5],
 w1 33 (.idxAddr 4) [.tm 31, .tm 32],
 w1 34 (.load true 4) [.tm 33],
 w1 35 .mov [.tm 5],
 w1 36 .mov [.tm 1],
 w1 37 .len [.tm 36],
 w1 38 (.call 31) [.tm 30, .tm 34, .tm 35, .tm 37],
 w1 39 .not [.tm 38]])
 (.cond (.tm 39) (.seq (.region [u1 4 .mov [.cn (.int .i64 2)]])
 .ret)
  .skip)))
 (.region [u1 28 .mov [.tm 5],
 u1 29 (.ari .add) [.tm 28, .cn (.int .i64 1)],
 u1 5 .mov [.tm 29]]))))))
 (.seq (.seq (.region [u1 6 .mov [.cn (.int .i64 0)]])
 (.block 2 (.loop (.seq (.seq (.region [u1 40 .mov [.tm 6],
 u1 41 .mov [.tm 1],
 u1 42 .len [.tm 41],
 u1 43 (.cmp .lss) [.tm 40, .tm 42]])
 (.cond (.tm 43) .skip
  (.exit 2)))
 (.seq (.block 3 (.seq (.region [u1 7 .mov [.cn (.int .i64 0)]])
 (.block 4 (.loop (.seq (.seq (.region [u1 46 .mov [.tm 7],
 u1 47 .mov [.tm 6],
 u1 48 (.cmp .lss) [.tm 46, .tm 47]])
 (.cond (.tm 48) .skip
  (.exit 4)))
 (.seq (.block 5 (.seq (.draw [] [w1 51 .mov [.tm 1],
 w1 52 .mov [.tm 7],
 w1 53 (.idxAddr 4) [.tm 51, .tm 52],
 w1 54 (.fieldAddr 0) [.tm 53],
 w1 55 (.load false 1) [.tm 54],
 w1 56 .mov [.tm 1],
 w1 57 .mov [.tm 6],
 w1 58 (.idxAddr 4) [.tm 56, .tm 57],
 w1 59 (.fieldAddr 0) [.tm 58],
 w1 60 (.load false 1) [.tm 59],
 w1 61 (.eqStr false) [.tm 55, .tm 60]])
 (.cond (.tm 61) (.seq (.region [u1 4 .mov [.cn (.int .i64 8)]])
 .ret)
  .skip)))
 (.region [u1 49 .mov [.tm 7],
 u1 50 (.ari .add) [.tm 49, .cn (.int .i64 1)],
 u1 7 .mov [.tm 50]])))))))
 (.region [u1 44 .mov [.tm 6],
 u1 45 (.ari .add) [.tm 44, .cn (.int .i64 1)],
 u1 6 .mov [.tm 45]]))))))
 (.seq (.region [u1 62 .mov [.tm 1],
 u1 63 .len [.tm 62],
 u1 64 (.make 1 1 [(.bool false)]) [.tm 63, .tm 63],
 u1 8 .mov [.tm 64]])
 (.seq (.seq (.region [u1 9 .mov [.cn (.int .i64 0)]])
 (.block 6 (.loop (.seq (.seq (.region [u1 65 .mov [.tm 9],
 u1 66 .mov [.tm 1],
 u1 67 .len [.tm 66],
 u1 68 (.cmp .lss) [.tm 65, .tm 67]])
 (.cond (.tm 68) .skip
  (.exit 6)))
 (.seq (.block 7 (.seq (.region [u1 10 .mov [.cn (.int .i64 0)]])
 (.block 8 (.loop (.seq (.seq (.region [u1 71 .mov [.tm 10],
 u1 72 .mov [.tm 1],
 u1 73 .len [.tm 72],
 u1 74 (.cmp .lss) [.tm 71, .tm 73]])
 (.cond (.tm 74) .skip
  (.exit 8)))
 (.seq (.block 9 (.region [u1 77 .mov [.tm 8],
 u1 78 .mov [.tm 10],
 u1 79 .mov [.tm 8],
 u1 80 .mov [.tm 10],
 u1 81 (.idxAddr 1) [.tm 79, .tm 80],
 u1 82 (.load false 1) [.tm 81],
 u1 83 .mov [.tm 82],
 u2 84 83 false .mov [.tm 1],
 u2 85 83 false .mov [.tm 10],
 u2 86 83 false (.idxAddr 4) [.tm 84, .tm 85],
 u2 87 83 false (.fieldAddr 2) [.tm 86],
 u2 88 83 false (.load false 1) [.tm 87],
 u2 89 83 false .mov [.tm 8],
 u2 90 83 false (.call 32) [.tm 88, .tm 89],
 u1 91 .or [.tm 83, .tm 90],
 u1 92 (.idxAddr 1) [.tm 77, .tm 78],
 u0 (.store 1) [.tm 92, .tm 91]]))
 (.region [u1 75 .mov [.tm 10],
 u1 76 (.ari .add) [.tm 75, .cn (.int .i64 1)],
 u1 10 .mov [.tm 76]])))))))
 (.region [u1 69 .mov [.tm 9],
 u1 70 (.ari .add) [.tm 69, .cn (.int .i64 1)],
 u1 9 .mov [.tm 70]]))))))
 (.seq (.seq (.region [u1 11 .mov [.cn (.int .i64 0)]])
 (.block 10 (.loop (.seq (.seq (.region [u1 93 .mov [.tm 11],
 u1 94 .mov [.tm 1],
 u1 95 .len [.tm 94],
 u1 96 (.cmp .lss) [.tm 93, .tm 95]])
 (.cond (.tm 96) .skip
  (.exit 10)))
 (.seq (.block 11 (.seq (.region [u1 99 .mov [.tm 8],
 u1 100 .mov [.tm 11],
 u1 101 (.idxAddr 1) [.tm 99, .tm 100],
 u1 102 (.load false 1) [.tm 101],
 u1 103 .not [.tm 102]])
 (.cond (.tm 103) (.seq (.region [u1 4 .mov [.cn (.int .i64 260)]])
 .ret)
  .skip)))
 (.region [u1 97 .mov [.tm 11],
 u1 98 (.ari .add) [.tm 97, .cn (.int .i64 1)],
 u1 11 .mov [.tm 98]]))))))
 (.seq (.region [u1 4 .mov [.cn (.int .i64 0)]])
 .ret))))))))) }
theorem v14_is : vfunc Try.prog Try.f14 = some v14 := by kernel_rfl

def chkC : Ctr := { alias := false, of := fun l => match l with
  | [.agg [.vs _ _ n sz get], .vs _ _ n' sz' get'] => .ex Hal fun h => .ex (List Wk) fun l => .pre (lsP 1 encR n sz get h ∧ lsP 4 encK n' sz' get' l ∧ (h.length ≤ 1000000000000 ∧ l.length ≤ 1000000000000) ∧ (∀ x ∈ h, x.v.length ≤ 1000000000000) ∧ okW l) (.fin (.int .i64 (chkF h l)) [])
  | _ => noC }
def TD0 : Env := { ct := fun n => match n with | 26 => some hallC | 27 => some valC | 28 => some mayC | 29 => some ofC | _ => none, fn := fun _ => none, meth := fun _ _ => none }
theorem TD0_ct26 : TD0.ct 26 = some hallC := rfl
theorem TD0_ct27 : TD0.ct 27 = some valC := rfl
theorem TD0_ct28 : TD0.ct 28 = some mayC := rfl
theorem TD0_ct29 : TD0.ct 29 = some ofC := rfl
theorem TD0_ok : EnvOk Try.prog TD0 := by
  refine ⟨fun f c h => ?_, fun f vf h => ?_, (fun _ _ _ h => by cases h), by kernel_rfl⟩
  · simp only [TD0] at h
    split at h
    · cases h; exact ⟨sq_ok, Try.f26, Try.func26, by kernel_rfl, by kernel_rfl⟩
    · cases h; exact ⟨val_ok, Try.f27, Try.func27, by kernel_rfl, by kernel_rfl⟩
    · cases h; exact ⟨may_ok, Try.f28, Try.func28, by kernel_rfl, by kernel_rfl⟩
    · cases h; exact ⟨of_ok, Try.f29, Try.func29, by kernel_rfl, by kernel_rfl⟩
    · cases h
  · cases h

theorem chk_ok : chkC.ok Try.prog 13 := by
  refine contract Try.func13 v13_is TD0_ok 400 chkC fun args k h => ?_
  simp only [chkC] at h
  split at h
  · rename_i t z n sz get t' z' n' sz' get'
    obtain ⟨h0, l, ⟨⟨rfl, rfl, hg⟩, ⟨rfl, rfl, hg'⟩, ⟨hl0, hl⟩, hh, hw⟩, h⟩ := h
    have h : k _ [] := h
    refine ⟨[.agg [.vs false z h0.length 1 (fun k => encR (h0.getD k default))], .vs false z' l.length 4 (fun k => encK (l.getD k default))], ⟨⟨⟨fun h => (by cases h), rfl, rfl, rfl, hg⟩, trivial⟩, ⟨fun h => (by cases h), rfl, rfl, rfl, hg'⟩, trivial⟩, ?_⟩
    dsimp only [v13, TD0_ct26, hallC, go_sem, Option.bind, Option.map, List.append_nil, Nat.beq, List.cons_append, List.nil_append, List.append_eq, List.map_cons, List.map_nil, ite_self, reduceIte]
    simp only [true_and, and_true, imp_self, implies_true, decide_eq_true_eq, decide_eq_false_iff_not, Nat.reduceAdd, Nat.reduceLeDiff, Bool.not_not, reduceCtorEq, false_imp_iff, Bool.not_eq_true', Bool.not_eq_false', Bool.false_eq_true, and_self, forall_const, ne_eq, not_false_eq_true, Nat.reduceEqDiff, Int.toNat_natCast]
    refine ⟨fun hc => ?_, fun hc => ?_⟩
    · rw [long_or] at hc
      have hc := of_decide_eq_true hc
      unfold chkF at h
      rw [if_pos hc] at h
      exact ans_int h
    rw [long_or] at hc
    have hc := of_decide_eq_false hc
    have hc1 : h0.length ≤ 12 ∧ l.length ≤ 12 := by omega
    unfold chkF at h
    rw [if_neg hc] at h
    refine ⟨h0, ⟨⟨rfl, rfl, fun k _ => leXL_self _⟩, hl0, hh⟩, ?_⟩
    refine Loop.keep [1, 0, 3, 18, 0] Nat (fun i => [(4, .int .i64 0), (5, .bool (goodP h0 l i)), (27, .int .i64 i)]) (fun i => [(1, .smap (setF (l.take i)))]) [] (fun i => i ≤ l.length) (fun i => l.length - i) ?_ ?_
    · refine ⟨0, Nat.zero_le _, ?_⟩
      dsimp only [go_sem, Option.bind, Option.map, List.append_nil, Nat.beq, List.cons_append, List.nil_append, List.append_eq, List.map_cons, List.map_nil, ite_self, reduceIte]
      simp only [leS_mk, leL_cons, leL_nil, le_junk, le_int, le_bool, le_nil, leLL_nil, leLL_cons, leH_cons, leH_nil, leH1_box, leH1_own, leH1_gone, le_vs, le_agg, le_tup, le_ptr, le_own, le_xp, le_fn, le_opt, le_val, le_elem, le_nil_own, le_nil_vs, leH_ghost, leL_chunk, leXL_id, bnd_int, bnd_bool, bnd_val, bnd_nil, bnd_junk, bnd_vs, bnd_xp, bnd_agg, bnd_tup, bnd_ptr, bnd_own, bnd_elem, bnd_fn, bnd_iface, bnd_opt, bnd_row, bnd_rcell, bnd_imap, bnd_smp, le_row, le_rcell, le_imap, le_smp, leH1_smap, bndL_nil, bndL_cons, lenH_cons, lenH_nil, imp_self, implies_true, true_and, and_true]
      simp [goodP, setF]
    · rintro i hi
      dsimp only [TD0_ct27, valC, encK, go_sem, Option.bind, Option.map, List.append_nil, Nat.beq, List.cons_append, List.nil_append, List.append_eq, List.map_cons, List.map_nil, ite_self, reduceIte]
      simp only [true_and, and_true, imp_self, implies_true, decide_eq_true_eq, decide_eq_false_iff_not, Nat.reduceAdd, Nat.reduceLeDiff, Bool.not_not, reduceCtorEq, false_imp_iff, Bool.not_eq_true', Bool.not_eq_false', Bool.false_eq_true, and_self, forall_const, ne_eq, not_false_eq_true, Nat.reduceEqDiff, Int.toNat_natCast]
      refine ⟨fun hlt => ?_, fun hge => ?_⟩
      · have hi' : i < l.length := by omega
        refine ⟨⟨by omega, hlt⟩, rfl, h0, l, i, fun _ => ⟨⟨rfl, rfl, fun k _ => leXL_self _⟩, ⟨rfl, rfl, fun k _ => leXL_self _⟩, ⟨rfl, hi'⟩, ⟨hl0, hl⟩, hw⟩, i + 1, by omega, by omega, ?_⟩
        simp only [leS_mk, leL_cons, leL_nil, le_junk, le_int, le_bool, le_nil, leLL_nil, leLL_cons, leH_cons, leH_nil, leH1_box, leH1_own, leH1_gone, le_vs, le_agg, le_tup, le_ptr, le_own, le_xp, le_fn, le_opt, le_val, le_elem, le_nil_own, le_nil_vs, leH_ghost, leL_chunk, leXL_id, bnd_int, bnd_bool, bnd_val, bnd_nil, bnd_junk, bnd_vs, bnd_xp, bnd_agg, bnd_tup, bnd_ptr, bnd_own, bnd_elem, bnd_fn, bnd_iface, bnd_opt, bnd_row, bnd_rcell, bnd_imap, bnd_smp, le_row, le_rcell, le_imap, le_smp, leH1_smap, bndL_nil, bndL_cons, lenH_cons, lenH_nil, imp_self, implies_true, true_and, and_true]
        rw [goodP_succ, setF_succ hi']
        exact ⟨⟨by omega, rfl, by omega, w_succ hi' (by omega)⟩, rfl⟩
      · obtain rfl : i = l.length := by omega
        rw [goodP_all, List.take_length]
        refine ⟨fun hb => ?_, fun hb => ?_⟩
        · rw [if_pos hb] at h
          exact ans_int h
        rw [if_neg (by rw [hb]; simp)] at h
        have haft := aft_of_good hb
        have hsm := aft_small haft hc1.2
        refine ⟨fun hc2 => ?_, fun hc2 => ?_⟩
        · rw [if_pos (by omega)] at h
          exact ans_int h
        rw [if_neg (by omega)] at h
        refine Loop.keep [1, 50] Nat (fun r => [(4, .int .i64 0), (9, .int .u64 (doneF l r)), (53, .int .i64 r)]) (fun _ => []) [] (fun r => r ≤ l.length) (fun r => l.length - r) ?_ ?_
        · refine ⟨0, Nat.zero_le _, ?_⟩
          dsimp only [go_sem, Option.bind, Option.map, List.append_nil, Nat.beq, List.cons_append, List.nil_append, List.append_eq, List.map_cons, List.map_nil, ite_self, reduceIte]
          simp only [leS_mk, leL_cons, leL_nil, le_junk, le_int, le_bool, le_nil, leLL_nil, leLL_cons, leH_cons, leH_nil, leH1_box, leH1_own, leH1_gone, le_vs, le_agg, le_tup, le_ptr, le_own, le_xp, le_fn, le_opt, le_val, le_elem, le_nil_own, le_nil_vs, leH_ghost, leL_chunk, leXL_id, bnd_int, bnd_bool, bnd_val, bnd_nil, bnd_junk, bnd_vs, bnd_xp, bnd_agg, bnd_tup, bnd_ptr, bnd_own, bnd_elem, bnd_fn, bnd_iface, bnd_opt, bnd_row, bnd_rcell, bnd_imap, bnd_smp, le_row, le_rcell, le_imap, le_smp, leH1_smap, bndL_nil, bndL_cons, lenH_cons, lenH_nil, imp_self, implies_true, true_and, and_true]
          simp [doneF]
        · rintro r hr
          dsimp only [go_sem, Option.bind, Option.map, List.append_nil, Nat.beq, List.cons_append, List.nil_append, List.append_eq, List.map_cons, List.map_nil, ite_self, reduceIte]
          simp only [true_and, and_true, imp_self, implies_true, decide_eq_true_eq, decide_eq_false_iff_not, Nat.reduceAdd, Nat.reduceLeDiff, Bool.not_not, reduceCtorEq, false_imp_iff, Bool.not_eq_true', Bool.not_eq_false', Bool.false_eq_true, and_self, forall_const, ne_eq, not_false_eq_true, Nat.reduceEqDiff, Int.toNat_natCast]
          refine ⟨fun hlt2 => ?_, fun hge2 => ?_⟩
          · refine Loop.keep [1, 50, 0, 2] Nat (fun i => [(4, .int .i64 0), (9, .int .u64 (partF l (doneF l r) i)), (57, .int .i64 i)]) (fun _ => []) [] (fun i => i ≤ l.length) (fun i => l.length - i) ?_ ?_
            · refine ⟨0, Nat.zero_le _, ?_⟩
              dsimp only [go_sem, Option.bind, Option.map, List.append_nil, Nat.beq, List.cons_append, List.nil_append, List.append_eq, List.map_cons, List.map_nil, ite_self, reduceIte]
              simp only [leS_mk, leL_cons, leL_nil, le_junk, le_int, le_bool, le_nil, leLL_nil, leLL_cons, leH_cons, leH_nil, leH1_box, leH1_own, leH1_gone, le_vs, le_agg, le_tup, le_ptr, le_own, le_xp, le_fn, le_opt, le_val, le_elem, le_nil_own, le_nil_vs, leH_ghost, leL_chunk, leXL_id, bnd_int, bnd_bool, bnd_val, bnd_nil, bnd_junk, bnd_vs, bnd_xp, bnd_agg, bnd_tup, bnd_ptr, bnd_own, bnd_elem, bnd_fn, bnd_iface, bnd_opt, bnd_row, bnd_rcell, bnd_imap, bnd_smp, le_row, le_rcell, le_imap, le_smp, leH1_smap, bndL_nil, bndL_cons, lenH_cons, lenH_nil, imp_self, implies_true, true_and, and_true]
              simp [partF]
            · rintro i hi
              dsimp only [TD0_ct28, TD0_ct29, mayC, ofC, go_sem, Option.bind, Option.map, List.append_nil, Nat.beq, List.cons_append, List.nil_append, List.append_eq, List.map_cons, List.map_nil, ite_self, reduceIte]
              simp only [true_and, and_true, imp_self, implies_true, decide_eq_true_eq, decide_eq_false_iff_not, Nat.reduceAdd, Nat.reduceLeDiff, Bool.not_not, reduceCtorEq, false_imp_iff, Bool.not_eq_true', Bool.not_eq_false', Bool.false_eq_true, and_self, forall_const, ne_eq, not_false_eq_true, Nat.reduceEqDiff, Int.toNat_natCast]
              have hP := lt64 hc1.2 (partF_lt (doneF_lt (l := l) r) i hi)
              refine ⟨fun hlt3 => ?_, fun hge3 => ?_⟩
              · have hi' : i < l.length := by omega
                have hi64 : i < 64 := by omega
                refine ⟨l, partF l (doneF l r) i, i, ⟨⟨rfl, rfl, fun k _ => leXL_self _⟩, ⟨rfl, hP⟩, ⟨rfl, hi', hi64⟩, fun x hx => ⟨hsm x hx, (hw x hx).1⟩⟩, fun hm => ?_, fun hm => ?_⟩
                · refine ⟨Nat.one_pos, [(i : Int)], ⟨⟨rfl, rfl, fun k hk => ?_⟩, smallL_one hi64, by simp⟩, i + 1, by omega, by omega, ?_⟩
                  · obtain rfl : k = 0 := by omega
                    exact leXL_self _
                  · rw [maskF_one, u64_or hP (Nat.pow_lt_pow_right (by omega) hi64)]
                    simp only [leS_mk, leL_cons, leL_nil, le_junk, le_int, le_bool, le_nil, leLL_nil, leLL_cons, leH_cons, leH_nil, leH1_box, leH1_own, leH1_gone, le_vs, le_agg, le_tup, le_ptr, le_own, le_xp, le_fn, le_opt, le_val, le_elem, le_nil_own, le_nil_vs, leH_ghost, leL_chunk, leXL_id, bnd_int, bnd_bool, bnd_val, bnd_nil, bnd_junk, bnd_vs, bnd_xp, bnd_agg, bnd_tup, bnd_ptr, bnd_own, bnd_elem, bnd_fn, bnd_iface, bnd_opt, bnd_row, bnd_rcell, bnd_imap, bnd_smp, le_row, le_rcell, le_imap, le_smp, leH1_smap, bndL_nil, bndL_cons, lenH_cons, lenH_nil, imp_self, implies_true, true_and, and_true]
                    refine ⟨?_, w_succ hi' (by omega)⟩
                    simp only [partF, stepF, hm, if_true]
                · refine ⟨i + 1, by omega, by omega, ?_⟩
                  simp only [leS_mk, leL_cons, leL_nil, le_junk, le_int, le_bool, le_nil, leLL_nil, leLL_cons, leH_cons, leH_nil, leH1_box, leH1_own, leH1_gone, le_vs, le_agg, le_tup, le_ptr, le_own, le_xp, le_fn, le_opt, le_val, le_elem, le_nil_own, le_nil_vs, leH_ghost, leL_chunk, leXL_id, bnd_int, bnd_bool, bnd_val, bnd_nil, bnd_junk, bnd_vs, bnd_xp, bnd_agg, bnd_tup, bnd_ptr, bnd_own, bnd_elem, bnd_fn, bnd_iface, bnd_opt, bnd_row, bnd_rcell, bnd_imap, bnd_smp, le_row, le_rcell, le_imap, le_smp, leH1_smap, bndL_nil, bndL_cons, lenH_cons, lenH_nil, imp_self, implies_true, true_and, and_true]
                  refine ⟨?_, w_succ hi' (by omega)⟩
                  simp only [partF, stepF, hm]
                  rfl
              · obtain rfl : i = l.length := by omega
                refine ⟨r + 1, by omega, by omega, ?_⟩
                simp only [leS_mk, leL_cons, leL_nil, le_junk, le_int, le_bool, le_nil, leLL_nil, leLL_cons, leH_cons, leH_nil, leH1_box, leH1_own, leH1_gone, le_vs, le_agg, le_tup, le_ptr, le_own, le_xp, le_fn, le_opt, le_val, le_elem, le_nil_own, le_nil_vs, leH_ghost, leL_chunk, leXL_id, bnd_int, bnd_bool, bnd_val, bnd_nil, bnd_junk, bnd_vs, bnd_xp, bnd_agg, bnd_tup, bnd_ptr, bnd_own, bnd_elem, bnd_fn, bnd_iface, bnd_opt, bnd_row, bnd_rcell, bnd_imap, bnd_smp, le_row, le_rcell, le_imap, le_smp, leH1_smap, bndL_nil, bndL_cons, lenH_cons, lenH_nil, imp_self, implies_true, true_and, and_true]
                exact ⟨rfl, w_succ (by omega : r < l.length) (by omega)⟩
          · obtain rfl : r = l.length := by omega
            rw [u64_full hc1.2]
            refine ⟨by omega, fun hd => ?_, fun hd => ?_⟩
            · rw [if_pos (by omega)] at h
              exact ans_int h
            · rw [if_neg (by omega)] at h
              exact ans_int h
  · exact h.1.elim
end Go.Proofs.Yteioilioobichaa

/- Tuning, walked: the reference's Check. -/
/- Tuning, walked: the reference's Check. -/
set_option linter.all false
namespace Go.Proofs.Yteioilioobichaa
open Go Go.Vx
set_option maxRecDepth 100000
set_option maxHeartbeats 4000000

def TE0 : Env := { ct := fun n => match n with | 30 => some hallC | 31 => some workC | 32 => some readyC | _ => none, fn := fun _ => none, meth := fun _ _ => none }
theorem TE0_ct30 : TE0.ct 30 = some hallC := rfl
theorem TE0_ct31 : TE0.ct 31 = some workC := rfl
theorem TE0_ct32 : TE0.ct 32 = some readyC := rfl
theorem TE0_ok : EnvOk Try.prog TE0 := by
  refine ⟨fun f c h => ?_, fun f vf h => ?_, (fun _ _ _ h => by cases h), by kernel_rfl⟩
  · simp only [TE0] at h
    split at h
    · cases h; exact ⟨rhall_ok, Try.f30, Try.func30, by kernel_rfl, by kernel_rfl⟩
    · cases h; exact ⟨work_ok, Try.f31, Try.func31, by kernel_rfl, by kernel_rfl⟩
    · cases h; exact ⟨ready_ok, Try.f32, Try.func32, by kernel_rfl, by kernel_rfl⟩
    · cases h
  · cases h

theorem rchk_ok : chkC.ok Try.prog 14 := by
  refine contract Try.func14 v14_is TE0_ok 400 chkC fun args k h => ?_
  simp only [chkC] at h
  split at h
  · rename_i t z n sz get t' z' n' sz' get'
    obtain ⟨h0, l, ⟨⟨rfl, rfl, hg⟩, ⟨rfl, rfl, hg'⟩, ⟨hl0, hl⟩, hh, hw⟩, h⟩ := h
    have h : k _ [] := h
    refine ⟨[.agg [.vs false z h0.length 1 (fun k => encR (h0.getD k default))], .vs false z' l.length 4 (fun k => encK (l.getD k default))], ⟨⟨⟨fun h => (by cases h), rfl, rfl, rfl, hg⟩, trivial⟩, ⟨fun h => (by cases h), rfl, rfl, rfl, hg'⟩, trivial⟩, ?_⟩
    dsimp only [v14, TE0_ct30, hallC, go_sem, Option.bind, Option.map, List.append_nil, Nat.beq, List.cons_append, List.nil_append, List.append_eq, List.map_cons, List.map_nil, ite_self, reduceIte]
    simp only [true_and, and_true, imp_self, implies_true, decide_eq_true_eq, decide_eq_false_iff_not, Nat.reduceAdd, Nat.reduceLeDiff, Bool.not_not, reduceCtorEq, false_imp_iff, Bool.not_eq_true', Bool.not_eq_false', Bool.false_eq_true, and_self, forall_const, ne_eq, not_false_eq_true, Nat.reduceEqDiff, Int.toNat_natCast]
    refine ⟨fun hc => ?_, fun hc => ?_⟩
    · rw [long_or] at hc
      have hc := of_decide_eq_true hc
      unfold chkF at h
      rw [if_pos hc] at h
      exact ans_int h
    rw [long_or] at hc
    have hc := of_decide_eq_false hc
    have hc1 : h0.length ≤ 12 ∧ l.length ≤ 12 := by omega
    unfold chkF at h
    rw [if_neg hc] at h
    refine ⟨h0, ⟨⟨rfl, rfl, fun k _ => leXL_self _⟩, hl0, hh⟩, fun hq => ?_, fun hq => ?_⟩
    · have : goodF h0 l = false := by unfold goodF; rw [hq, Bool.false_and]
      rw [if_pos this] at h
      exact ans_int h
    refine Loop.keep [1, 0] Nat (fun i => [(4, .int .i64 0), (5, .int .i64 i)]) (fun _ => []) [] (fun i => i ≤ l.length ∧ ∀ j, j < i → wkF h0 l.length (l.getD j default) j = true) (fun i => l.length - i) ?_ ?_
    · refine ⟨0, ⟨Nat.zero_le _, fun j h => by omega⟩, ?_⟩
      dsimp only [go_sem, Option.bind, Option.map, List.append_nil, Nat.beq, List.cons_append, List.nil_append, List.append_eq, List.map_cons, List.map_nil, ite_self, reduceIte]
      simp only [leS_mk, leL_cons, leL_nil, le_junk, le_int, le_bool, le_nil, leLL_nil, leLL_cons, leH_cons, leH_nil, leH1_box, leH1_own, leH1_gone, le_vs, le_agg, le_tup, le_ptr, le_own, le_xp, le_fn, le_opt, le_val, le_elem, le_nil_own, le_nil_vs, leH_ghost, leL_chunk, leXL_id, bnd_int, bnd_bool, bnd_val, bnd_nil, bnd_junk, bnd_vs, bnd_xp, bnd_agg, bnd_tup, bnd_ptr, bnd_own, bnd_elem, bnd_fn, bnd_iface, bnd_opt, bnd_row, bnd_rcell, bnd_imap, bnd_smp, le_row, le_rcell, le_imap, le_smp, leH1_smap, bndL_nil, bndL_cons, lenH_cons, lenH_nil, imp_self, implies_true, true_and, and_true]
      simp
    · rintro i ⟨hi, ha⟩
      dsimp only [TE0_ct31, workC, encK, go_sem, Option.bind, Option.map, List.append_nil, Nat.beq, List.cons_append, List.nil_append, List.append_eq, List.map_cons, List.map_nil, ite_self, reduceIte]
      simp only [true_and, and_true, imp_self, implies_true, decide_eq_true_eq, decide_eq_false_iff_not, Nat.reduceAdd, Nat.reduceLeDiff, Bool.not_not, reduceCtorEq, false_imp_iff, Bool.not_eq_true', Bool.not_eq_false', Bool.false_eq_true, and_self, forall_const, ne_eq, not_false_eq_true, Nat.reduceEqDiff, Int.toNat_natCast]
      refine ⟨fun hlt => ?_, fun hge => ?_⟩
      · have hi' : i < l.length := by omega
        refine ⟨⟨by omega, hlt⟩, h0, (l.getD i default).af.v, i, l.length, ⟨⟨rfl, rfl, fun k _ => leXL_self _⟩, ⟨rfl, rfl, fun k _ => leXL_self _⟩, ⟨rfl, by omega, rfl, hl⟩, hl0, (hw _ (getD_mem hi')).1, (hw _ (getD_mem hi')).2⟩, fun hb => ?_, fun hb => ?_⟩
        · rw [if_pos (good_no hi' hb)] at h
          exact ans_int h
        · refine ⟨i + 1, ⟨by omega, lt_succ_all ha hb⟩, by omega, ?_⟩
          simp only [leS_mk, leL_cons, leL_nil, le_junk, le_int, le_bool, le_nil, leLL_nil, leLL_cons, leH_cons, leH_nil, leH1_box, leH1_own, leH1_gone, le_vs, le_agg, le_tup, le_ptr, le_own, le_xp, le_fn, le_opt, le_val, le_elem, le_nil_own, le_nil_vs, leH_ghost, leL_chunk, leXL_id, bnd_int, bnd_bool, bnd_val, bnd_nil, bnd_junk, bnd_vs, bnd_xp, bnd_agg, bnd_tup, bnd_ptr, bnd_own, bnd_elem, bnd_fn, bnd_iface, bnd_opt, bnd_row, bnd_rcell, bnd_imap, bnd_smp, le_row, le_rcell, le_imap, le_smp, leH1_smap, bndL_nil, bndL_cons, lenH_cons, lenH_nil, imp_self, implies_true, true_and, and_true]
          exact ⟨by omega, w_succ hi' (by omega)⟩
      · obtain rfl : i = l.length := by omega
        have hgood := good_yes hq ha
        have haft := aft_of_good hgood
        have hsm := aft_small haft hc1.2
        rw [if_neg (by rw [hgood]; simp)] at h
        refine Loop.keep [1, 0] Nat (fun i => [(4, .int .i64 0), (6, .int .i64 i)]) (fun _ => []) [] (fun i => i ≤ l.length ∧ distT l i) (fun i => l.length - i) ?_ ?_
        · refine ⟨0, ⟨Nat.zero_le _, fun j h => by omega⟩, ?_⟩
          dsimp only [go_sem, Option.bind, Option.map, List.append_nil, Nat.beq, List.cons_append, List.nil_append, List.append_eq, List.map_cons, List.map_nil, ite_self, reduceIte]
          simp only [leS_mk, leL_cons, leL_nil, le_junk, le_int, le_bool, le_nil, leLL_nil, leLL_cons, leH_cons, leH_nil, leH1_box, leH1_own, leH1_gone, le_vs, le_agg, le_tup, le_ptr, le_own, le_xp, le_fn, le_opt, le_val, le_elem, le_nil_own, le_nil_vs, leH_ghost, leL_chunk, leXL_id, bnd_int, bnd_bool, bnd_val, bnd_nil, bnd_junk, bnd_vs, bnd_xp, bnd_agg, bnd_tup, bnd_ptr, bnd_own, bnd_elem, bnd_fn, bnd_iface, bnd_opt, bnd_row, bnd_rcell, bnd_imap, bnd_smp, le_row, le_rcell, le_imap, le_smp, leH1_smap, bndL_nil, bndL_cons, lenH_cons, lenH_nil, imp_self, implies_true, true_and, and_true]
          simp
        · rintro i ⟨hi, hd⟩
          dsimp only [go_sem, Option.bind, Option.map, List.append_nil, Nat.beq, List.cons_append, List.nil_append, List.append_eq, List.map_cons, List.map_nil, ite_self, reduceIte]
          simp only [true_and, and_true, imp_self, implies_true, decide_eq_true_eq, decide_eq_false_iff_not, Nat.reduceAdd, Nat.reduceLeDiff, Bool.not_not, reduceCtorEq, false_imp_iff, Bool.not_eq_true', Bool.not_eq_false', Bool.false_eq_true, and_self, forall_const, ne_eq, not_false_eq_true, Nat.reduceEqDiff, Int.toNat_natCast]
          refine ⟨fun hlt => ?_, fun hge => ?_⟩
          · have hi' : i < l.length := by omega
            refine Loop.keep [1, 0, 3] Nat (fun q => [(4, .int .i64 0), (7, .int .i64 q)]) (fun _ => []) [] (fun q => q ≤ i ∧ ∀ j, j < q → nameL (l.getD j default) ≠ nameL (l.getD i default)) (fun q => i - q) ?_ ?_
            · refine ⟨0, ⟨Nat.zero_le _, fun j h => by omega⟩, ?_⟩
              dsimp only [go_sem, Option.bind, Option.map, List.append_nil, Nat.beq, List.cons_append, List.nil_append, List.append_eq, List.map_cons, List.map_nil, ite_self, reduceIte]
              simp only [leS_mk, leL_cons, leL_nil, le_junk, le_int, le_bool, le_nil, leLL_nil, leLL_cons, leH_cons, leH_nil, leH1_box, leH1_own, leH1_gone, le_vs, le_agg, le_tup, le_ptr, le_own, le_xp, le_fn, le_opt, le_val, le_elem, le_nil_own, le_nil_vs, leH_ghost, leL_chunk, leXL_id, bnd_int, bnd_bool, bnd_val, bnd_nil, bnd_junk, bnd_vs, bnd_xp, bnd_agg, bnd_tup, bnd_ptr, bnd_own, bnd_elem, bnd_fn, bnd_iface, bnd_opt, bnd_row, bnd_rcell, bnd_imap, bnd_smp, le_row, le_rcell, le_imap, le_smp, leH1_smap, bndL_nil, bndL_cons, lenH_cons, lenH_nil, imp_self, implies_true, true_and, and_true]
              simp
            · rintro q ⟨hq, hqa⟩
              dsimp only [go_sem, Option.bind, Option.map, List.append_nil, Nat.beq, List.cons_append, List.nil_append, List.append_eq, List.map_cons, List.map_nil, ite_self, reduceIte]
              simp only [true_and, and_true, imp_self, implies_true, decide_eq_true_eq, decide_eq_false_iff_not, Nat.reduceAdd, Nat.reduceLeDiff, Bool.not_not, reduceCtorEq, false_imp_iff, Bool.not_eq_true', Bool.not_eq_false', Bool.false_eq_true, and_self, forall_const, ne_eq, not_false_eq_true, Nat.reduceEqDiff, Int.toNat_natCast]
              refine ⟨fun hlt2 => ⟨⟨by omega, by omega⟩, ⟨by omega, hlt⟩, fun hb => ?_, fun hb => ?_⟩, fun hge => ?_⟩
              · rw [str_eq] at hb
                have hb := of_decide_eq_true hb
                rw [if_pos (dup_lt hi' (by omega : q < i) hb)] at h
                exact ans_int h
              · rw [str_eq] at hb
                have hb := of_decide_eq_false hb
                refine ⟨q + 1, ⟨by omega, lt_succ_all hqa hb⟩, by omega, ?_⟩
                simp only [leS_mk, leL_cons, leL_nil, le_junk, le_int, le_bool, le_nil, leLL_nil, leLL_cons, leH_cons, leH_nil, leH1_box, leH1_own, leH1_gone, le_vs, le_agg, le_tup, le_ptr, le_own, le_xp, le_fn, le_opt, le_val, le_elem, le_nil_own, le_nil_vs, leH_ghost, leL_chunk, leXL_id, bnd_int, bnd_bool, bnd_val, bnd_nil, bnd_junk, bnd_vs, bnd_xp, bnd_agg, bnd_tup, bnd_ptr, bnd_own, bnd_elem, bnd_fn, bnd_iface, bnd_opt, bnd_row, bnd_rcell, bnd_imap, bnd_smp, le_row, le_rcell, le_imap, le_smp, leH1_smap, bndL_nil, bndL_cons, lenH_cons, lenH_nil, imp_self, implies_true, true_and, and_true]
                exact ⟨by omega, w_succ (by omega : q < i) (by omega)⟩
              · obtain rfl : q = i := by omega
                refine ⟨q + 1, ⟨by omega, fun j hj k hk => ?_⟩, by omega, ?_⟩
                · rcases Nat.lt_or_ge j q with h' | h'
                  · exact hd j h' k hk
                  · obtain rfl : j = q := by omega
                    exact hqa k hk
                · simp only [leS_mk, leL_cons, leL_nil, le_junk, le_int, le_bool, le_nil, leLL_nil, leLL_cons, leH_cons, leH_nil, leH1_box, leH1_own, leH1_gone, le_vs, le_agg, le_tup, le_ptr, le_own, le_xp, le_fn, le_opt, le_val, le_elem, le_nil_own, le_nil_vs, leH_ghost, leL_chunk, leXL_id, bnd_int, bnd_bool, bnd_val, bnd_nil, bnd_junk, bnd_vs, bnd_xp, bnd_agg, bnd_tup, bnd_ptr, bnd_own, bnd_elem, bnd_fn, bnd_iface, bnd_opt, bnd_row, bnd_rcell, bnd_imap, bnd_smp, le_row, le_rcell, le_imap, le_smp, leH1_smap, bndL_nil, bndL_cons, lenH_cons, lenH_nil, imp_self, implies_true, true_and, and_true]
                  exact ⟨by omega, w_succ hi' (by omega)⟩
          · obtain rfl : i = l.length := by omega
            rw [dist_eq hd, if_neg (by omega)] at h
            refine ⟨⟨by omega, by omega, by omega, by unfold capOk; omega⟩, ?_⟩
            refine Loop.keep [1, 6] Nat (fun r => [(4, .int .i64 0), (9, .int .i64 r)]) (fun r => [(1, .own false 1 l.length (fun k => [.bool ((doneF l r).testBit k)]))]) [] (fun r => r ≤ l.length) (fun r => l.length - r) ?_ ?_
            · refine ⟨0, Nat.zero_le _, ?_⟩
              dsimp only [go_sem, Option.bind, Option.map, List.append_nil, Nat.beq, List.cons_append, List.nil_append, List.append_eq, List.map_cons, List.map_nil, ite_self, reduceIte]
              simp only [leS_mk, leL_cons, leL_nil, le_junk, le_int, le_bool, le_nil, leLL_nil, leLL_cons, leH_cons, leH_nil, leH1_box, leH1_own, leH1_gone, le_vs, le_agg, le_tup, le_ptr, le_own, le_xp, le_fn, le_opt, le_val, le_elem, le_nil_own, le_nil_vs, leH_ghost, leL_chunk, leXL_id, bnd_int, bnd_bool, bnd_val, bnd_nil, bnd_junk, bnd_vs, bnd_xp, bnd_agg, bnd_tup, bnd_ptr, bnd_own, bnd_elem, bnd_fn, bnd_iface, bnd_opt, bnd_row, bnd_rcell, bnd_imap, bnd_smp, le_row, le_rcell, le_imap, le_smp, leH1_smap, bndL_nil, bndL_cons, lenH_cons, lenH_nil, imp_self, implies_true, true_and, and_true]
              simp [doneF]
            · rintro r hr
              dsimp only [go_sem, Option.bind, Option.map, List.append_nil, Nat.beq, List.cons_append, List.nil_append, List.append_eq, List.map_cons, List.map_nil, ite_self, reduceIte]
              simp only [true_and, and_true, imp_self, implies_true, decide_eq_true_eq, decide_eq_false_iff_not, Nat.reduceAdd, Nat.reduceLeDiff, Bool.not_not, reduceCtorEq, false_imp_iff, Bool.not_eq_true', Bool.not_eq_false', Bool.false_eq_true, and_self, forall_const, ne_eq, not_false_eq_true, Nat.reduceEqDiff, Int.toNat_natCast]
              refine ⟨fun hlt2 => ?_, fun hge2 => ?_⟩
              · refine Loop.keep [1, 6, 0] Nat (fun i => [(4, .int .i64 0), (10, .int .i64 i)]) (fun i => [(1, .own false 1 l.length (fun k => [.bool ((partF l (doneF l r) i).testBit k)]))]) [] (fun i => i ≤ l.length) (fun i => l.length - i) ?_ ?_
                · refine ⟨0, Nat.zero_le _, ?_⟩
                  dsimp only [go_sem, Option.bind, Option.map, List.append_nil, Nat.beq, List.cons_append, List.nil_append, List.append_eq, List.map_cons, List.map_nil, ite_self, reduceIte]
                  simp only [leS_mk, leL_cons, leL_nil, le_junk, le_int, le_bool, le_nil, leLL_nil, leLL_cons, leH_cons, leH_nil, leH1_box, leH1_own, leH1_gone, le_vs, le_agg, le_tup, le_ptr, le_own, le_xp, le_fn, le_opt, le_val, le_elem, le_nil_own, le_nil_vs, leH_ghost, leL_chunk, leXL_id, bnd_int, bnd_bool, bnd_val, bnd_nil, bnd_junk, bnd_vs, bnd_xp, bnd_agg, bnd_tup, bnd_ptr, bnd_own, bnd_elem, bnd_fn, bnd_iface, bnd_opt, bnd_row, bnd_rcell, bnd_imap, bnd_smp, le_row, le_rcell, le_imap, le_smp, leH1_smap, bndL_nil, bndL_cons, lenH_cons, lenH_nil, imp_self, implies_true, true_and, and_true]
                  simp [partF]
                · rintro i hi
                  dsimp only [TE0_ct32, readyC, go_sem, Option.bind, Option.map, List.append_nil, Nat.beq, List.cons_append, List.nil_append, List.append_eq, List.map_cons, List.map_nil, ite_self, reduceIte]
                  simp only [true_and, and_true, imp_self, implies_true, decide_eq_true_eq, decide_eq_false_iff_not, Nat.reduceAdd, Nat.reduceLeDiff, Bool.not_not, reduceCtorEq, false_imp_iff, Bool.not_eq_true', Bool.not_eq_false', Bool.false_eq_true, and_self, forall_const, ne_eq, not_false_eq_true, Nat.reduceEqDiff, Int.toNat_natCast]
                  refine ⟨fun hlt3 => ?_, fun hge3 => ?_⟩
                  · have hi' : i < l.length := by omega
                    have hax := haft _ (getD_mem hi')
                    refine ⟨⟨by omega, hlt3⟩, hi', fun _ => ⟨by omega, hlt3⟩, (l.getD i default).af.v, bitsL l.length (partF l (doneF l r) i), fun _ => ⟨⟨rfl, rfl, fun k _ => leXL_self _⟩, ⟨rfl, bitsL_len.symm, fun k hk => ?_⟩, (hw _ (getD_mem hi')).1, fun a ha => by rw [bitsL_len]; exact hax a ha⟩, ⟨by omega, hlt3⟩, hi', i + 1, by omega, by omega, ?_⟩
                    · rw [bitsL_get hk]; exact leXL_self _
                    · rw [bitsL_all hax]
                      simp only [leS_mk, leL_cons, leL_nil, le_junk, le_int, le_bool, le_nil, leLL_nil, leLL_cons, leH_cons, leH_nil, leH1_box, leH1_own, leH1_gone, le_vs, le_agg, le_tup, le_ptr, le_own, le_xp, le_fn, le_opt, le_val, le_elem, le_nil_own, le_nil_vs, leH_ghost, leL_chunk, leXL_id, bnd_int, bnd_bool, bnd_val, bnd_nil, bnd_junk, bnd_vs, bnd_xp, bnd_agg, bnd_tup, bnd_ptr, bnd_own, bnd_elem, bnd_fn, bnd_iface, bnd_opt, bnd_row, bnd_rcell, bnd_imap, bnd_smp, le_row, le_rcell, le_imap, le_smp, leH1_smap, bndL_nil, bndL_cons, lenH_cons, lenH_nil, imp_self, implies_true, true_and, and_true]
                      refine ⟨⟨by omega, w_succ hi' (by omega)⟩, fun k hk => ?_⟩
                      have e : (partF l (doneF l r) (i + 1)).testBit k = if k = i then ((partF l (doneF l r) i).testBit i || (l.getD i default).af.v.all fun a => (partF l (doneF l r) i).testBit a.toNat) else (partF l (doneF l r) i).testBit k := step_bit (hsm _ (getD_mem hi'))
                      rw [e]
                      by_cases hki : k = i
                      · rw [if_pos hki, if_pos hki]; exact ⟨rfl, trivial⟩
                      · rw [if_neg hki, if_neg hki]; exact ⟨rfl, trivial⟩
                  · obtain rfl : i = l.length := by omega
                    refine ⟨r + 1, by omega, by omega, ?_⟩
                    simp only [leS_mk, leL_cons, leL_nil, le_junk, le_int, le_bool, le_nil, leLL_nil, leLL_cons, leH_cons, leH_nil, leH1_box, leH1_own, leH1_gone, le_vs, le_agg, le_tup, le_ptr, le_own, le_xp, le_fn, le_opt, le_val, le_elem, le_nil_own, le_nil_vs, leH_ghost, leL_chunk, leXL_id, bnd_int, bnd_bool, bnd_val, bnd_nil, bnd_junk, bnd_vs, bnd_xp, bnd_agg, bnd_tup, bnd_ptr, bnd_own, bnd_elem, bnd_fn, bnd_iface, bnd_opt, bnd_row, bnd_rcell, bnd_imap, bnd_smp, le_row, le_rcell, le_imap, le_smp, leH1_smap, bndL_nil, bndL_cons, lenH_cons, lenH_nil, imp_self, implies_true, true_and, and_true]
                    exact ⟨⟨by omega, w_succ (by omega : r < l.length) (by omega)⟩, fun k hk => rfl⟩
              · obtain rfl : r = l.length := by omega
                refine Loop.keep [1, 6] Nat (fun i => [(4, .int .i64 0), (11, .int .i64 i)]) (fun _ => []) [] (fun i => i ≤ l.length ∧ ∀ j, j < i → (doneF l l.length).testBit j = true) (fun i => l.length - i) ?_ ?_
                · refine ⟨0, ⟨Nat.zero_le _, fun j h => by omega⟩, ?_⟩
                  dsimp only [go_sem, Option.bind, Option.map, List.append_nil, Nat.beq, List.cons_append, List.nil_append, List.append_eq, List.map_cons, List.map_nil, ite_self, reduceIte]
                  simp only [leS_mk, leL_cons, leL_nil, le_junk, le_int, le_bool, le_nil, leLL_nil, leLL_cons, leH_cons, leH_nil, leH1_box, leH1_own, leH1_gone, le_vs, le_agg, le_tup, le_ptr, le_own, le_xp, le_fn, le_opt, le_val, le_elem, le_nil_own, le_nil_vs, leH_ghost, leL_chunk, leXL_id, bnd_int, bnd_bool, bnd_val, bnd_nil, bnd_junk, bnd_vs, bnd_xp, bnd_agg, bnd_tup, bnd_ptr, bnd_own, bnd_elem, bnd_fn, bnd_iface, bnd_opt, bnd_row, bnd_rcell, bnd_imap, bnd_smp, le_row, le_rcell, le_imap, le_smp, leH1_smap, bndL_nil, bndL_cons, lenH_cons, lenH_nil, imp_self, implies_true, true_and, and_true]
                  simp
                · rintro i ⟨hi, hia⟩
                  dsimp only [go_sem, Option.bind, Option.map, List.append_nil, Nat.beq, List.cons_append, List.nil_append, List.append_eq, List.map_cons, List.map_nil, ite_self, reduceIte]
                  simp only [true_and, and_true, imp_self, implies_true, decide_eq_true_eq, decide_eq_false_iff_not, Nat.reduceAdd, Nat.reduceLeDiff, Bool.not_not, reduceCtorEq, false_imp_iff, Bool.not_eq_true', Bool.not_eq_false', Bool.false_eq_true, and_self, forall_const, ne_eq, not_false_eq_true, Nat.reduceEqDiff, Int.toNat_natCast]
                  refine ⟨fun hlt3 => ⟨⟨by omega, hlt3⟩, by omega, fun hb => ?_, fun hb => ?_⟩, fun hge3 => ?_⟩
                  · have : doneF l l.length ≠ 2 ^ l.length - 1 := fun he => by
                      have := (full_iff (doneF_lt l.length)).1 he i (by omega)
                      rw [hb] at this; cases this
                    rw [if_pos this] at h
                    exact ans_int h
                  · refine ⟨i + 1, ⟨by omega, lt_succ_all hia hb⟩, by omega, ?_⟩
                    simp only [leS_mk, leL_cons, leL_nil, le_junk, le_int, le_bool, le_nil, leLL_nil, leLL_cons, leH_cons, leH_nil, leH1_box, leH1_own, leH1_gone, le_vs, le_agg, le_tup, le_ptr, le_own, le_xp, le_fn, le_opt, le_val, le_elem, le_nil_own, le_nil_vs, leH_ghost, leL_chunk, leXL_id, bnd_int, bnd_bool, bnd_val, bnd_nil, bnd_junk, bnd_vs, bnd_xp, bnd_agg, bnd_tup, bnd_ptr, bnd_own, bnd_elem, bnd_fn, bnd_iface, bnd_opt, bnd_row, bnd_rcell, bnd_imap, bnd_smp, le_row, le_rcell, le_imap, le_smp, leH1_smap, bndL_nil, bndL_cons, lenH_cons, lenH_nil, imp_self, implies_true, true_and, and_true]
                    exact ⟨by omega, w_succ (by omega : i < l.length) (by omega)⟩
                  · obtain rfl : i = l.length := by omega
                    have := (full_iff (doneF_lt l.length)).2 hia
                    rw [if_neg (by rw [← this]; simp)] at h
                    exact ans_int h
  · exact h.1.elim
end Go.Proofs.Yteioilioobichaa

/- Tuning, walked: orders. -/
/- Tuning, walked: orders. -/
set_option linter.all false
namespace Go.Proofs.Yteioilioobichaa
open Go Go.Vx
set_option maxRecDepth 100000
set_option maxHeartbeats 4000000

def v23 : VF := { ntmps := 40, res := [.tmp 4], body :=
 (.seq (.region [u1 4 .mov [.cn (.bool false)]])
 (.seq (.region [u1 5 .mov [.cn (.int .u64 0)]])
 (.seq (.seq (.region [u1 8 .mov [.tm 1],
 u1 9 .len [.tm 8],
 u1 10 .mov [.cn (.int .i64 0)]])
 (.block 0 (.loop (.seq (.region [u1 11 (.cmp .lss) [.tm 10, .tm 9]])
 (.seq (.cond (.tm 11) .skip
  (.exit 0))
 (.seq (.block 1 (.seq (.region [u1 12 (.idxAddr 1) [.tm 8, .tm 10],
 u1 13 (.load false 1) [.tm 12],
 u1 7 .mov [.tm 13]])
 (.seq (.seq (.region [u1 14 .mov [.tm 7],
 u1 15 (.cmp .lss) [.tm 14, .cn (.int .i64 0)],
 u1 16 .mov [.tm 15],
 u2 17 16 false .mov [.tm 7],
 u2 18 16 false .mov [.tm 0],
 u2 19 16 false .len [.tm 18],
 u2 20 16 false (.cmp .geq) [.tm 17, .tm 19],
 u1 21 .or [.tm 16, .tm 20],
 u1 22 .mov [.tm 21],
 u2 23 22 false .mov [.tm 5],
 u2 24 22 false .mov [.tm 0],
 u2 25 22 false .mov [.tm 7],
 u2 26 22 false (.call 28) [.tm 23, .tm 24, .tm 25],
 u2 27 22 false .not [.tm 26],
 u1 28 .or [.tm 22, .tm 27]])
 (.cond (.tm 28) (.seq (.region [u1 4 .mov [.cn (.bool false)]])
 .ret)
  .skip))
 (.region [u1 29 .mov [.tm 5],
 u1 30 .mov [.tm 7],
 u1 31 (.buildSlice 1 1 [(.int .i64 0)] [(0, 1)]) [.tm 30],
 u1 32 (.call 29) [.tm 31],
 u1 33 (.bit .or) [.tm 29, .tm 32],
 u1 5 .mov [.tm 33]]))))
 (.region [u1 34 (.ari .add) [.tm 10, .cn (.int .i64 1)],
 u1 10 .mov [.tm 34]])))))))
 (.seq (.region [u1 35 .mov [.tm 1],
 u1 36 .len [.tm 35],
 u1 37 .mov [.tm 0],
 u1 38 .len [.tm 37],
 u1 39 (.cmp .eql) [.tm 36, .tm 38],
 u1 4 .mov [.tm 39]])
 .ret)))) }
theorem v23_is : vfunc Try.prog Try.f23 = some v23 := by kernel_rfl
def ordC : Ctr := { alias := false, of := fun l => match l with
  | [.vs _ _ n sz get, .vs _ _ n' sz' get'] => .ex (List Wk) fun l => .ex (List Int) fun o => .pre (lsP 4 encK n sz get l ∧ lsP 1 enc1 n' sz' get' o ∧ l.length ≤ 12 ∧ o.length ≤ 1000000000000 ∧ okW l ∧ aftW l) (.fin (.bool (ordF l o)) [])
  | _ => noC }
def TF0 : Env := { ct := fun n => match n with | 28 => some mayC | 29 => some ofC | _ => none, fn := fun _ => none, meth := fun _ _ => none }
theorem TF0_ct28 : TF0.ct 28 = some mayC := rfl
theorem TF0_ct29 : TF0.ct 29 = some ofC := rfl
theorem TF0_ok : EnvOk Try.prog TF0 := by
  refine ⟨fun f c h => ?_, fun f vf h => ?_, (fun _ _ _ h => by cases h), by kernel_rfl⟩
  · simp only [TF0] at h
    split at h
    · cases h; exact ⟨may_ok, Try.f28, Try.func28, by kernel_rfl, by kernel_rfl⟩
    · cases h; exact ⟨of_ok, Try.f29, Try.func29, by kernel_rfl, by kernel_rfl⟩
    · cases h
  · cases h

theorem ord_ok : ordC.ok Try.prog 23 := by
  refine contract Try.func23 v23_is TF0_ok 300 ordC fun args k h => ?_
  simp only [ordC] at h
  split at h
  · rename_i t z n sz get t' z' n' sz' get'
    obtain ⟨l, o, ⟨⟨rfl, rfl, hg⟩, ⟨rfl, rfl, hg'⟩, hl, ho, hw, haft⟩, h⟩ := h
    have h : k _ [] := h
    have hsm := aft_small haft hl
    refine ⟨[.vs false z l.length 4 (fun k => encK (l.getD k default)), .vs false z' o.length 1 (fun k => enc1 (o.getD k default))], ⟨⟨fun h => (by cases h), rfl, rfl, rfl, hg⟩, ⟨fun h => (by cases h), rfl, rfl, rfl, hg'⟩, trivial⟩, ?_⟩
    dsimp only [v23, go_sem, Option.bind, Option.map, List.append_nil, Nat.beq, List.cons_append, List.nil_append, List.append_eq, List.map_cons, List.map_nil, ite_self, reduceIte]
    simp only [true_and, and_true, imp_self, implies_true, decide_eq_true_eq, decide_eq_false_iff_not, Nat.reduceAdd, Nat.reduceLeDiff, Bool.not_not, reduceCtorEq, false_imp_iff, Bool.not_eq_true', Bool.not_eq_false', Bool.false_eq_true, and_self, forall_const, ne_eq, not_false_eq_true, Nat.reduceEqDiff]
    refine Loop.keep [0, 0, 6, 0] (Nat × Nat) (fun p => [(4, .bool false), (5, .int .u64 p.2), (10, .int .i64 p.1)]) (fun _ => []) [] (fun p => p.1 ≤ o.length ∧ ordGo l (o.take p.1) = some p.2 ∧ p.2 < 2 ^ l.length) (fun p => o.length - p.1) ?_ ?_
    · refine ⟨(0, 0), ⟨Nat.zero_le _, rfl, Nat.pow_pos (by omega)⟩, ?_⟩
      dsimp only [go_sem, Option.bind, Option.map, List.append_nil, Nat.beq, List.cons_append, List.nil_append, List.append_eq, List.map_cons, List.map_nil, ite_self, reduceIte]
      simp only [leS_mk, leL_cons, leL_nil, le_junk, le_int, le_bool, le_nil, leLL_nil, leLL_cons, leH_cons, leH_nil, leH1_box, leH1_own, leH1_gone, le_vs, le_agg, le_tup, le_ptr, le_own, le_xp, le_fn, le_opt, le_val, le_elem, le_nil_own, le_nil_vs, leH_ghost, leL_chunk, leXL_id, bnd_int, bnd_bool, bnd_val, bnd_nil, bnd_junk, bnd_vs, bnd_xp, bnd_agg, bnd_tup, bnd_ptr, bnd_own, bnd_elem, bnd_fn, bnd_iface, bnd_opt, bnd_row, bnd_rcell, bnd_imap, bnd_smp, le_row, le_rcell, le_imap, le_smp, leH1_smap, bndL_nil, bndL_cons, lenH_cons, lenH_nil, imp_self, implies_true, true_and, and_true]
      simp
    · rintro ⟨i, s⟩ ⟨hi, hgo, hs⟩
      simp only at hi hgo hs
      have hS := lt64 hl hs
      dsimp only [TF0_ct28, TF0_ct29, mayC, ofC, encK, enc1, go_sem, Option.bind, Option.map, List.append_nil, Nat.beq, List.cons_append, List.nil_append, List.append_eq, List.map_cons, List.map_nil, ite_self, reduceIte]
      simp only [true_and, and_true, imp_self, implies_true, decide_eq_true_eq, decide_eq_false_iff_not, Nat.reduceAdd, Nat.reduceLeDiff, Bool.not_not, reduceCtorEq, false_imp_iff, Bool.not_eq_true', Bool.not_eq_false', Bool.false_eq_true, and_self, forall_const, ne_eq, not_false_eq_true, Nat.reduceEqDiff, Int.toNat_natCast]
      refine ⟨fun hlt => ?_, fun hge => ?_⟩
      · have hi' : i < o.length := by omega
        have hin : (decide (o.getD i default < 0) || decide ((l.length : Int) ≤ o.getD i default)) = false → 0 ≤ o.getD i default ∧ o.getD i default < (l.length : Int) := fun hc => by
          simp only [Bool.or_eq_false_iff, decide_eq_false_iff_not] at hc; omega
        refine ⟨⟨by omega, hlt⟩, l, s, (o.getD i default).toNat, fun hc => ⟨⟨rfl, rfl, fun k _ => leXL_self _⟩, ⟨rfl, hS⟩, ⟨?_, ?_, ?_⟩, fun x hx => ⟨hsm x hx, (hw x hx).1⟩⟩, fun hb => ?_, fun hb => ?_⟩
        · have := hin hc; omega
        · have := hin hc; omega
        · have := hin hc; omega
        · rw [ordF_no hi' hgo (by
            simp only [Bool.or_eq_true, decide_eq_true_eq, Bool.not_eq_true'] at hb
            rcases hb with (hb | hb) | hb
            · exact .inl hb
            · exact .inr (.inl hb)
            · exact .inr (.inr hb))] at h
          exact ans_bool h
        · rw [Bool.or_eq_false_iff] at hb
          obtain ⟨hb1, hb2⟩ := hb
          obtain ⟨a0, a1⟩ := hin hb1
          have hm : mayF l s (o.getD i default).toNat = true := by rw [Bool.not_eq_false'] at hb2; exact hb2
          refine ⟨Nat.one_pos, [o.getD i default], ⟨⟨rfl, rfl, fun k hk => ?_⟩, small1 hl a0 a1, by simp⟩, (i + 1, s ||| 2 ^ (o.getD i default).toNat), ⟨by omega, ordGo_yes hi' hgo a0 a1 hm, or_lt hs a0 a1⟩, by simp only; omega, ?_⟩
          · obtain rfl : k = 0 := by omega
            exact leXL_self _
          · rw [mask1, u64_or hS (Nat.pow_lt_pow_right (by omega) (by omega))]
            simp only [leS_mk, leL_cons, leL_nil, le_junk, le_int, le_bool, le_nil, leLL_nil, leLL_cons, leH_cons, leH_nil, leH1_box, leH1_own, leH1_gone, le_vs, le_agg, le_tup, le_ptr, le_own, le_xp, le_fn, le_opt, le_val, le_elem, le_nil_own, le_nil_vs, leH_ghost, leL_chunk, leXL_id, bnd_int, bnd_bool, bnd_val, bnd_nil, bnd_junk, bnd_vs, bnd_xp, bnd_agg, bnd_tup, bnd_ptr, bnd_own, bnd_elem, bnd_fn, bnd_iface, bnd_opt, bnd_row, bnd_rcell, bnd_imap, bnd_smp, le_row, le_rcell, le_imap, le_smp, leH1_smap, bndL_nil, bndL_cons, lenH_cons, lenH_nil, imp_self, implies_true, true_and, and_true]
            exact w_succ hi' (by omega)
      · obtain rfl : i = o.length := by omega
        rw [ordF_end hgo] at h
        exact ans_bool h
  · exact h.1.elim
end Go.Proofs.Yteioilioobichaa

/- Tuning, walked: moves. -/
/- Tuning, walked: moves. -/
set_option linter.all false
namespace Go.Proofs.Yteioilioobichaa
open Go Go.Vx
set_option maxRecDepth 100000
set_option maxHeartbeats 4000000

def v9 : VF := { ntmps := 60, res := [.tmp 8, .tmp 9], body :=
 (.seq (.region [u1 4 .box [.tm 0],
 u1 8 .mov [.cn (.int .i64 0)],
 u1 9 .mov [.cn (.int .i64 0)]])
 (.seq (.seq (.region [u1 14 (.load true 1) [.tm 4],
 u1 15 .mov [.tm 1],
 u1 16 (.call 13) [.tm 14, .tm 15],
 u1 10 .mov [.tm 16]])
 (.seq (.region [u1 17 .mov [.tm 10],
 u1 18 (.cmp .neq) [.tm 17, .cn (.int .i64 0)]])
 (.cond (.tm 18) (.seq (.region [u1 19 .mov [.tm 10],
 u1 8 .mov [.cn (.int .i64 0)],
 u1 9 .mov [.tm 19]])
 .ret)
  .skip)))
 (.seq (.seq (.region [u1 20 .mov [.tm 2],
 u1 21 (.cmp .lss) [.tm 20, .cn (.int .i64 0)],
 u1 22 .mov [.tm 21],
 u2 23 22 false .mov [.tm 2],
 u2 24 22 false (.fieldAddr 0) [.tm 4],
 u2 25 22 false (.load false 1) [.tm 24],
 u2 26 22 false .len [.tm 25],
 u2 27 22 false (.cmp .geq) [.tm 23, .tm 26],
 u1 28 .or [.tm 22, .tm 27]])
 (.cond (.tm 28) (.seq (.region [u1 8 .mov [.cn (.int .i64 0)],
 u1 9 .mov [.cn (.int .i64 2)]])
 .ret)
  .skip))
 (.seq (.seq (.region [u1 29 .mov [.tm 1],
 u1 30 .mov [.tm 3],
 u1 31 (.call 23) [.tm 29, .tm 30],
 u1 32 .not [.tm 31]])
 (.cond (.tm 32) (.seq (.region [u1 8 .mov [.cn (.int .i64 0)],
 u1 9 .mov [.cn (.int .i64 4)]])
 .ret)
  .skip))
 (.seq (.region [u1 11 .mov [.cn (.int .i64 0)]])
 (.seq (.seq (.region [u1 33 .mov [.tm 3],
 u1 34 .len [.tm 33],
 u1 35 .mov [.cn (.int .i64 0)]])
 (.block 0 (.loop (.seq (.region [u1 36 (.cmp .lss) [.tm 35, .tm 34]])
 (.seq (.cond (.tm 36) .skip
  (.exit 0))
 (.seq (.block 1 (.seq (.region [u1 37 (.idxAddr 1) [.tm 33, .tm 35],
 u1 38 (.load false 1) [.tm 37],
 u1 13 .mov [.tm 38]])
 (.seq (.draw [] [w1 39 .mov [.tm 11],
 w1 40 (.fieldAddr 0) [.tm 4],
 w1 41 (.load false 1) [.tm 40],
 w1 42 .mov [.tm 2],
 w1 43 (.idxAddr 1) [.tm 41, .tm 42],
 w1 44 (.load false 1) [.tm 43],
 w1 45 .mov [.tm 1],
 w1 46 .mov [.tm 13],
 w1 47 (.idxAddr 4) [.tm 45, .tm 46],
 w1 48 (.fieldAddr 1) [.tm 47],
 w1 49 (.load false 1) [.tm 48],
 w1 50 (.idxAddr 1) [.tm 44, .tm 49],
 w1 51 (.load false 1) [.tm 50],
 w1 52 (.ari .add) [.tm 39, .tm 51],
 w1 11 .mov [.tm 52]])
 (.region [u1 53 .mov [.tm 1],
 u1 54 .mov [.tm 13],
 u1 55 (.idxAddr 4) [.tm 53, .tm 54],
 u1 56 (.fieldAddr 1) [.tm 55],
 u1 57 (.load false 1) [.tm 56],
 u1 2 .mov [.tm 57]]))))
 (.region [u1 58 (.ari .add) [.tm 35, .cn (.int .i64 1)],
 u1 35 .mov [.tm 58]])))))))
 (.seq (.region [u1 59 .mov [.tm 11],
 u1 8 .mov [.tm 59],
 u1 9 .mov [.cn (.int .i64 0)]])
 .ret))))))) }
theorem v9_is : vfunc Try.prog Try.f9 = some v9 := by kernel_rfl
def MovC : Ctr := { alias := false, of := fun l => match l with
  | [.agg [.vs _ _ n sz get], .vs _ _ n' sz' get', .int .i64 st, .vs _ _ n'' sz'' get''] => .ex Hal fun h => .ex (List Wk) fun l => .ex (List Int) fun o => .pre (lsP 1 encR n sz get h ∧ lsP 4 encK n' sz' get' l ∧ lsP 1 enc1 n'' sz'' get'' o ∧ ((h.length ≤ 1000000000000 ∧ l.length ≤ 1000000000000) ∧ (∀ x ∈ h, x.v.length ≤ 1000000000000) ∧ okW l) ∧ o.length ≤ 1000000000000) (.fin (.tup [.int .i64 (MovF h l st o).1, .int .i64 (MovF h l st o).2]) [])
  | _ => noC }
end Go.Proofs.Yteioilioobichaa

/- Tuning, walked: Moves of the program. -/
/- Tuning, walked: Moves of the program. -/
set_option linter.all false
namespace Go.Proofs.Yteioilioobichaa
open Go Go.Vx
set_option maxRecDepth 100000
set_option maxHeartbeats 4000000

def TH0 : Env := { ct := fun n => match n with | 13 => some chkC | 23 => some ordC | _ => none, fn := fun _ => none, meth := fun _ _ => none }
theorem TH0_ct13 : TH0.ct 13 = some chkC := rfl
theorem TH0_ct23 : TH0.ct 23 = some ordC := rfl
theorem TH0_ok : EnvOk Try.prog TH0 := by
  refine ⟨fun f c h => ?_, fun f vf h => ?_, (fun _ _ _ h => by cases h), by kernel_rfl⟩
  · simp only [TH0] at h
    split at h
    · cases h; exact ⟨chk_ok, Try.f13, Try.func13, by kernel_rfl, by kernel_rfl⟩
    · cases h; exact ⟨ord_ok, Try.f23, Try.func23, by kernel_rfl, by kernel_rfl⟩
    · cases h
  · cases h

theorem Mov_ok : MovC.ok Try.prog 9 := by
  refine contract Try.func9 v9_is TH0_ok 300 MovC fun args k h => ?_
  simp only [MovC] at h
  split at h
  · rename_i t z n sz get t' z' n' sz' get' st t'' z'' n'' sz'' get''
    obtain ⟨h0, l, o, ⟨⟨rfl, rfl, hg⟩, ⟨rfl, rfl, hg'⟩, ⟨rfl, rfl, hg''⟩, ⟨hl, hh, hw⟩, ho⟩, h⟩ := h
    have h : k _ [] := h
    refine ⟨[.agg [.vs false z h0.length 1 (fun k => encR (h0.getD k default))], .vs false z' l.length 4 (fun k => encK (l.getD k default)), .int .i64 st, .vs false z'' o.length 1 (fun k => enc1 (o.getD k default))], ⟨⟨⟨fun h => (by cases h), rfl, rfl, rfl, hg⟩, trivial⟩, ⟨fun h => (by cases h), rfl, rfl, rfl, hg'⟩, ⟨rfl, rfl⟩, ⟨fun h => (by cases h), rfl, rfl, rfl, hg''⟩, trivial⟩, ?_⟩
    dsimp only [v9, TH0_ct13, TH0_ct23, chkC, ordC, encK, go_sem, Option.bind, Option.map, List.append_nil, Nat.beq, List.cons_append, List.nil_append, List.append_eq, List.map_cons, List.map_nil, ite_self, reduceIte]
    simp only [true_and, and_true, imp_self, implies_true, decide_eq_true_eq, decide_eq_false_iff_not, Nat.reduceAdd, Nat.reduceLeDiff, Bool.not_not, reduceCtorEq, false_imp_iff, Bool.not_eq_true', Bool.not_eq_false', Bool.false_eq_true, and_self, forall_const, ne_eq, not_false_eq_true, Nat.reduceEqDiff]
    unfold MovF at h
    refine ⟨h0, l, ⟨⟨rfl, rfl, fun k _ => leXL_self _⟩, ⟨rfl, rfl, fun k _ => leXL_self _⟩, hl, hh, hw⟩, fun hc => ?_, fun hc => ⟨fun hs => ?_, fun hs => ?_⟩⟩
    · rw [if_pos hc] at h
      exact ans_le (show k _ [] from h) (by simp [expo, view, viewL, leL, le]) (fun _ => by simp [freshS, freshL])
    · rw [if_neg (by omega), if_pos (by simpa using hs)] at h
      exact ans_le (show k _ [] from h) (by simp [expo, view, viewL, leL, le]) (fun _ => by simp [freshS, freshL])
    have hs' : 0 ≤ st ∧ st < (h0.length : Int) := by
      simp only [Bool.or_eq_false_iff, decide_eq_false_iff_not] at hs; omega
    rw [if_neg (by omega), if_neg (by omega)] at h
    obtain ⟨c1, c2, c3, c4, c5⟩ := chk_facts hc
    refine ⟨l, o, ⟨⟨rfl, rfl, fun k _ => leXL_self _⟩, ⟨rfl, rfl, fun k _ => leXL_self _⟩, c2, ho, hw, aft_of_good c3⟩, fun hb => ?_, fun hb => ?_⟩
    · rw [if_pos hb] at h
      exact ans_le (show k _ [] from h) (by simp [expo, view, viewL, leL, le]) (fun _ => by simp [freshS, freshL])
    · rw [if_neg (by rw [hb]; simp)] at h
      obtain ⟨r1, hor⟩ := ord_rng hb
      have hrng := mov_rng c3 hs'.1 hs'.2 hor
      refine Loop.keep [1, 2, 28, 0] Nat (fun i => [(2, .int .i64 (movF h0 l st (o.take i)).2), (8, .int .i64 0), (9, .int .i64 0), (11, .int .i64 (movF h0 l st (o.take i)).1), (35, .int .i64 i)]) (fun _ => []) [] (fun i => i ≤ o.length) (fun i => o.length - i) ?_ ?_
      · refine ⟨0, Nat.zero_le _, ?_⟩
        dsimp only [go_sem, Option.bind, Option.map, List.append_nil, Nat.beq, List.cons_append, List.nil_append, List.append_eq, List.map_cons, List.map_nil, ite_self, reduceIte]
        simp only [leS_mk, leL_cons, leL_nil, le_junk, le_int, le_bool, le_nil, leLL_nil, leLL_cons, leH_cons, leH_nil, leH1_box, leH1_own, leH1_gone, le_vs, le_agg, le_tup, le_ptr, le_own, le_xp, le_fn, le_opt, le_val, le_elem, le_nil_own, le_nil_vs, leH_ghost, leL_chunk, leXL_id, bnd_int, bnd_bool, bnd_val, bnd_nil, bnd_junk, bnd_vs, bnd_xp, bnd_agg, bnd_tup, bnd_ptr, bnd_own, bnd_elem, bnd_fn, bnd_iface, bnd_opt, bnd_row, bnd_rcell, bnd_imap, bnd_smp, le_row, le_rcell, le_imap, le_smp, leH1_smap, bndL_nil, bndL_cons, lenH_cons, lenH_nil, imp_self, implies_true, true_and, and_true]
        simp [movF]
      · rintro i hi
        obtain ⟨⟨g1, g2⟩, g3, g4⟩ := hrng i hi
        dsimp only [encR, encK, enc1, go_sem, Option.bind, Option.map, List.append_nil, Nat.beq, List.cons_append, List.nil_append, List.append_eq, List.map_cons, List.map_nil, ite_self, reduceIte]
        simp only [true_and, and_true, imp_self, implies_true, decide_eq_true_eq, decide_eq_false_iff_not, Nat.reduceAdd, Nat.reduceLeDiff, Bool.not_not, reduceCtorEq, false_imp_iff, Bool.not_eq_true', Bool.not_eq_false', Bool.false_eq_true, and_self, forall_const, ne_eq, not_false_eq_true, Nat.reduceEqDiff, Int.toNat_natCast]
        refine ⟨fun hlt => ?_, fun hge => ?_⟩
        · have hi' : i < o.length := by omega
          obtain ⟨a0, a1⟩ := hor i hi'
          have hp := good_pl c3 (by omega : (o.getD i default).toNat < l.length)
          have hr := good_row c3 (by omega : (movF h0 l st (o.take i)).2.toNat < h0.length)
          have hc := hr.2 (l.getD (o.getD i default).toNat default).pl.toNat (by omega)
          refine ⟨⟨by omega, hlt⟩, ⟨g3, g4⟩, ⟨a0, a1⟩, ⟨hp.1, by rw [hr.1]; exact hp.2⟩, ⟨a0, a1⟩, i + 1, by omega, by omega, ?_⟩
          rw [w6_raw (x := (movF h0 l st (List.take i o)).fst + (List.getD h0 (movF h0 l st (List.take i o)).snd.toNat default).v.getD (l.getD (o.getD i default).toNat default).pl.toNat default) (by omega) (by omega), movF_succ hi']
          simp only [leS_mk, leL_cons, leL_nil, le_junk, le_int, le_bool, le_nil, leLL_nil, leLL_cons, leH_cons, leH_nil, leH1_box, leH1_own, leH1_gone, le_vs, le_agg, le_tup, le_ptr, le_own, le_xp, le_fn, le_opt, le_val, le_elem, le_nil_own, le_nil_vs, leH_ghost, leL_chunk, leXL_id, bnd_int, bnd_bool, bnd_val, bnd_nil, bnd_junk, bnd_vs, bnd_xp, bnd_agg, bnd_tup, bnd_ptr, bnd_own, bnd_elem, bnd_fn, bnd_iface, bnd_opt, bnd_row, bnd_rcell, bnd_imap, bnd_smp, le_row, le_rcell, le_imap, le_smp, leH1_smap, bndL_nil, bndL_cons, lenH_cons, lenH_nil, imp_self, implies_true, true_and, and_true]
          exact ⟨rfl, by omega, rfl, w_succ hi' (by omega)⟩
        · obtain rfl : i = o.length := by omega
          rw [List.take_length]
          exact ans_le (show k _ [] from h) (by simp [expo, view, viewL, leL, le]) (fun _ => by simp [freshS, freshL])
  · exact h.1.elim
end Go.Proofs.Yteioilioobichaa

/- Tuning, in plain Lean: sums over the works that are done; drift. -/
/- Tuning, in plain Lean: sums over the works that are done; drift. -/
set_option linter.all false
namespace Go.Proofs.Yteioilioobichaa
open Go Go.Vx

/-- The sum over an order's first works. -/
def sumO (f : Nat → Int) (o : List Int) : Int := o.foldl (fun s a => s + f a.toNat) 0
theorem sumO_succ {f : Nat → Int} {o : List Int} {i : Nat} (hi : i < o.length) : sumO f (o.take (i + 1)) = sumO f (o.take i) + f (o.getD i default).toNat := by
  unfold sumO; rw [foldl_take_succ hi]
theorem may_bit {l : List Wk} {s i : Nat} (h : mayF l s i = true) : s.testBit i = false := by
  unfold mayF at h
  rw [Bool.and_eq_true, decide_eq_true_eq] at h
  exact and_pow_zero.1 h.1
/-- The sum over all works. -/
def sumW (f : Nat → Int) : Nat → Int
  | 0 => 0
  | n + 1 => sumW f n + f n
end Go.Proofs.Yteioilioobichaa

/- Tuning, in plain Lean: the fewest moves. -/
/- Tuning, in plain Lean: the fewest moves. -/
set_option linter.all false
namespace Go.Proofs.Yteioilioobichaa
open Go Go.Vx

/-- The best of the first i works: moves, which one. -/
def fRow (h : Hal) (l : List Wk) (G : Nat → Int → Int) (s : Nat) (p : Int) : Nat → Int × Int
  | 0 => (0, -1)
  | i + 1 => if mayF l s i = true then (if (fRow h l G s p i).2 < 0 ∨ G (s ||| 2 ^ i) (l.getD i default).pl + costF h p (l.getD i default).pl < (fRow h l G s p i).1 then (G (s ||| 2 ^ i) (l.getD i default).pl + costF h p (l.getD i default).pl, (i : Int)) else fRow h l G s p i) else fRow h l G s p i
def FF (h : Hal) (l : List Wk) : Nat → Nat → Int → Int × Int
  | 0, _, _ => (0, -1)
  | n + 1, s, p => fRow h l (fun s p => (FF h l n s p).1) s p l.length
/-- How many works below n are not done. -/
def leftN (s : Nat) : Nat → Nat
  | 0 => 0
  | n + 1 => leftN s n + (if s.testBit n = true then 0 else 1)
theorem leftN_le {s : Nat} : ∀ n, leftN s n ≤ n
  | 0 => Nat.le_refl _
  | n + 1 => by
    have := leftN_le (s := s) n
    simp only [leftN]
    split <;> omega
theorem leftN_or {s a : Nat} (ha : s.testBit a = false) : ∀ n, leftN (s ||| 2 ^ a) n + (if a < n then 1 else 0) = leftN s n
  | 0 => by simp [leftN]
  | n + 1 => by
    have e : (s ||| 2 ^ a).testBit n = (s.testBit n || decide (a = n)) := by rw [Nat.testBit_or, Nat.testBit_two_pow]
    have ih := leftN_or ha n
    simp only [leftN, e]
    by_cases h : a = n
    · subst h
      rw [ha] at *
      simp at ih ⊢
      exact ih
    · rw [decide_eq_false h, Bool.or_false]
      by_cases h2 : a < n
      · rw [if_pos h2] at ih
        rw [if_pos (by omega : a < n + 1)]; omega
      · rw [if_neg h2] at ih
        rw [if_neg (by omega : ¬ a < n + 1)]; omega
theorem leftN_step {l : List Wk} {s i : Nat} (hi : i < l.length) (hm : mayF l s i = true) : leftN (s ||| 2 ^ i) l.length + 1 = leftN s l.length := by
  have := leftN_or (may_bit hm) l.length
  rw [if_pos hi] at this
  exact this
theorem fRow_eq {h : Hal} {l : List Wk} {G G' : Nat → Int → Int} {s : Nat} {p : Int} : ∀ i, (∀ j, j < i → mayF l s j = true → G (s ||| 2 ^ j) (l.getD j default).pl = G' (s ||| 2 ^ j) (l.getD j default).pl) → fRow h l G s p i = fRow h l G' s p i
  | 0, _ => rfl
  | i + 1, hh => by
    simp only [fRow]
    rw [fRow_eq i fun j hj => hh j (by omega)]
    by_cases hm : mayF l s i = true
    · rw [if_pos hm, if_pos hm, hh i (by omega) hm]
    · rw [if_neg hm, if_neg hm]
/-- More steps than there are works left change nothing. -/
theorem FF_more {h : Hal} {l : List Wk} : ∀ (n m s : Nat) (p : Int), leftN s l.length ≤ n → leftN s l.length ≤ m → FF h l n s p = FF h l m s p := by
  have none : ∀ (n s : Nat) (p : Int), leftN s l.length = 0 → FF h l n s p = (0, -1) := by
    intro n s p h0
    cases n with
    | zero => rfl
    | succ n =>
      simp only [FF]
      have : ∀ i, i ≤ l.length → fRow h l (fun s p => (FF h l n s p).1) s p i = (0, -1) := by
        intro i
        induction i with
        | zero => intro _; rfl
        | succ i ih =>
          intro hi
          simp only [fRow]
          rw [if_neg, ih (by omega)]
          intro hm
          have := leftN_step (by omega : i < l.length) hm
          omega
      exact this _ (Nat.le_refl _)
  intro n
  induction n with
  | zero => intro m s p h1 h2; rw [none 0 s p (by omega), none m s p (by omega)]
  | succ n ih =>
    intro m s p h1 h2
    cases m with
    | zero => rw [none _ s p (by omega), none _ s p (by omega)]
    | succ m =>
      simp only [FF]
      refine fRow_eq _ fun j hj hm => ?_
      have := leftN_step hj hm
      rw [ih m _ _ (by omega) (by omega)]
/-- The fewest moves, and the first work then. -/
def Few (h : Hal) (l : List Wk) (s : Nat) (p : Int) : Int × Int := FF h l l.length s p
theorem Few_eq {h : Hal} {l : List Wk} {s : Nat} {p : Int} : Few h l s p = fRow h l (fun s p => (Few h l s p).1) s p l.length := by
  unfold Few
  rw [FF_more l.length (l.length + 1) s p (leftN_le _) (by have := leftN_le (s := s) l.length; omega)]
  rfl
theorem fRow_rng {h : Hal} {l : List Wk} (hg : goodF h l = true) {s : Nat} {p : Int} (h0 : 0 ≤ p) (h1 : p < (h.length : Int)) {G : Nat → Int → Int} {B : Int} (hB : 0 ≤ B) (hG : ∀ j, j < l.length → mayF l s j = true → 0 ≤ G (s ||| 2 ^ j) (l.getD j default).pl ∧ G (s ||| 2 ^ j) (l.getD j default).pl ≤ B) :
    ∀ i, i ≤ l.length → (0 ≤ (fRow h l G s p i).1 ∧ (fRow h l G s p i).1 ≤ B + 1000) ∧ -1 ≤ (fRow h l G s p i).2 ∧ (fRow h l G s p i).2 < (i : Int)
  | 0, _ => by simp only [fRow]; omega
  | i + 1, hi => by
    obtain ⟨⟨g1, g2⟩, g3, g4⟩ := fRow_rng hg h0 h1 hB hG i (by omega)
    simp only [fRow]
    by_cases hm : mayF l s i = true
    · rw [if_pos hm]
      obtain ⟨b1, b2⟩ := hG i (by omega) hm
      have hp := good_pl hg (by omega : i < l.length)
      have hc := (good_row hg (by omega : p.toNat < h.length)).2 (l.getD i default).pl.toNat (by omega)
      have hc' : 0 ≤ costF h p (l.getD i default).pl ∧ costF h p (l.getD i default).pl ≤ 1000 := hc
      split
      · refine ⟨⟨?_, ?_⟩, ?_, ?_⟩ <;> simp only <;> omega
      · omega
    · rw [if_neg hm]; omega
theorem FF_rng {h : Hal} {l : List Wk} (hg : goodF h l = true) : ∀ (n s : Nat) (p : Int), 0 ≤ p → p < (h.length : Int) → 0 ≤ (FF h l n s p).1 ∧ (FF h l n s p).1 ≤ 1000 * n
  | 0, _, _, _, _ => by simp [FF]
  | n + 1, s, p, h0, h1 => by
    have := fRow_rng (s := s) hg h0 h1 (B := 1000 * n) (by omega) (G := fun s p => (FF h l n s p).1) (fun j hj _ => by
      have hp := good_pl hg hj
      exact FF_rng hg n _ _ hp.1 hp.2) l.length (Nat.le_refl _)
    simp only [FF]
    omega
end Go.Proofs.Yteioilioobichaa

/- Tuning, in plain Lean: drift. -/
/- Tuning, in plain Lean: drift. -/
set_option linter.all false
namespace Go.Proofs.Yteioilioobichaa
open Go Go.Vx

/-- The minutes of a work. -/
def minF (l : List Wk) (j : Nat) : Int := (l.getD j default).mi
/-- What an order's drift is: (work, bounds) after i steps from the front; t all minutes. -/
def drRow (l : List Wk) (rate t : Int) (o : List Int) : Nat → List Int
  | 0 => List.replicate l.length 0
  | i + 1 => (drRow l rate t o i).set (o.getD i default).toNat (rate * (t - sumO (minF l) (o.take (i + 1))))
theorem drRow_len {l : List Wk} {rate t : Int} {o : List Int} : ∀ i, (drRow l rate t o i).length = l.length
  | 0 => by simp [drRow]
  | i + 1 => by simp [drRow, drRow_len i]
theorem sumW_rng {h : Hal} {l : List Wk} (hg : goodF h l = true) : ∀ i, i ≤ l.length → 0 ≤ sumW (minF l) i ∧ sumW (minF l) i ≤ 600 * i
  | 0, _ => by simp [sumW]
  | i + 1, hi => by
    have := sumW_rng hg i (by omega)
    have hm : 1 ≤ minF l i ∧ minF l i ≤ 600 := good_mi hg (by omega)
    simp only [sumW]; omega
theorem sumO_rng {h : Hal} {l : List Wk} {o : List Int} (hg : goodF h l = true) (ho : ∀ i, i < o.length → 0 ≤ o.getD i default ∧ o.getD i default < (l.length : Int)) : ∀ i, i ≤ o.length → 0 ≤ sumO (minF l) (o.take i) ∧ sumO (minF l) (o.take i) ≤ 600 * i
  | 0, _ => by simp [sumO]
  | i + 1, hi => by
    have := sumO_rng hg ho i (by omega)
    have ha := ho i (by omega)
    have hm : 1 ≤ minF l (o.getD i default).toNat ∧ minF l (o.getD i default).toNat ≤ 600 := good_mi hg (by omega)
    rw [sumO_succ (by omega)]; omega
theorem mul_small {a x : Int} (h0 : 0 ≤ a) (h1 : a ≤ 1000000) (g0 : -7200 ≤ x) (g1 : x ≤ 7200) : -7200000000 ≤ a * x ∧ a * x ≤ 7200000000 := by
  have h2 := Int.mul_le_mul_of_nonneg_left g1 h0
  have h3 := Int.mul_le_mul_of_nonneg_left g0 h0
  omega
theorem drRow_get {l : List Wk} {rate t : Int} {o : List Int} {i k : Nat} (hk : k < l.length) : (drRow l rate t o (i + 1)).getD k default = if k = (o.getD i default).toNat then rate * (t - sumO (minF l) (o.take (i + 1))) else (drRow l rate t o i).getD k default := by
  have hl := drRow_len (l := l) (rate := rate) (t := t) (o := o) i
  simp only [drRow, List.getD_eq_getElem?_getD, List.getElem?_set, hl]
  by_cases h : k = (o.getD i default).toNat
  · have h' : (o.getD i default).toNat = k := h.symm
    simp only [List.getD_eq_getElem?_getD] at h h'
    rw [if_pos h, if_pos h', if_pos (by omega)]; rfl
  · have h' : ¬ (o.getD i default).toNat = k := fun e => h e.symm
    simp only [List.getD_eq_getElem?_getD] at h h'
    rw [if_neg h, if_neg h']
theorem drRow_0 {l : List Wk} {rate t : Int} {o : List Int} {k : Nat} (hk : k < l.length) : (drRow l rate t o 0).getD k default = 0 := by
  simp [drRow, hk]
def drF (l : List Wk) (rate : Int) (o : List Int) : List Int := drRow l rate (sumW (minF l) l.length) o o.length
end Go.Proofs.Yteioilioobichaa

/- Tuning, walked: Drift. -/
/- Tuning, walked: Drift. -/
set_option linter.all false
namespace Go.Proofs.Yteioilioobichaa
open Go Go.Vx
set_option maxRecDepth 100000
set_option maxHeartbeats 4000000

def v11 : VF := { ntmps := 66, res := [.tmp 8, .tmp 9], body :=
 (.seq (.region [u1 4 .box [.tm 0],
 u1 8 .mov [.cn .nil],
 u1 9 .mov [.cn (.int .i64 0)]])
 (.seq (.seq (.region [u1 17 (.load true 1) [.tm 4],
 u1 18 .mov [.tm 1],
 u1 19 (.call 13) [.tm 17, .tm 18],
 u1 10 .mov [.tm 19]])
 (.seq (.region [u1 20 .mov [.tm 10],
 u1 21 (.cmp .neq) [.tm 20, .cn (.int .i64 0)]])
 (.cond (.tm 21) (.seq (.region [u1 22 .mov [.tm 10],
 u1 8 .mov [.cn .nil],
 u1 9 .mov [.tm 22]])
 .ret)
  .skip)))
 (.seq (.seq (.region [u1 23 .mov [.tm 3],
 u1 24 (.call 25) [.tm 23, .cn (.int .i64 0), .cn (.int .i64 1000000)],
 u1 25 .not [.tm 24]])
 (.cond (.tm 25) (.seq (.region [u1 8 .mov [.cn .nil],
 u1 9 .mov [.cn (.int .i64 2)]])
 .ret)
  .skip))
 (.seq (.seq (.region [u1 26 .mov [.tm 1],
 u1 27 .mov [.tm 2],
 u1 28 (.call 23) [.tm 26, .tm 27],
 u1 29 .not [.tm 28]])
 (.cond (.tm 29) (.seq (.region [u1 8 .mov [.cn .nil],
 u1 9 .mov [.cn (.int .i64 4)]])
 .ret)
  .skip))
 (.seq (.region [u1 11 .mov [.cn (.int .i64 0)]])
 (.seq (.seq (.region [u1 30 .mov [.tm 1],
 u1 31 .len [.tm 30],
 u1 32 .mov [.cn (.int .i64 0)]])
 (.block 0 (.loop (.seq (.region [u1 33 (.cmp .lss) [.tm 32, .tm 31]])
 (.seq (.cond (.tm 33) .skip
  (.exit 0))
 (.seq (.block 1 (.seq (.region [u1 34 (.idxAddr 4) [.tm 30, .tm 32],
 u1 35 (.load true 4) [.tm 34],
 u1 13 (.alloc [(.val (.string ⟨#[]⟩)), (.int .i64 0), .nil, (.int .i64 0)]) [],
 u0 (.store 4) [.tm 13, .tm 35]])
 (.region [u1 36 .mov [.tm 11],
 u1 37 (.fieldAddr 3) [.tm 13],
 u1 38 (.load false 1) [.tm 37],
 u1 39 (.ari .add) [.tm 36, .tm 38],
 u1 11 .mov [.tm 39]])))
 (.region [u1 40 (.ari .add) [.tm 32, .cn (.int .i64 1)],
 u1 32 .mov [.tm 40]])))))))
 (.seq (.region [u1 41 .mov [.tm 1],
 u1 42 .len [.tm 41],
 u1 43 (.make 2 16 [(.int .i64 0), (.int .i64 0)]) [.tm 42, .tm 42],
 u1 14 .mov [.tm 43]])
 (.seq (.seq (.region [u1 44 .mov [.tm 2],
 u1 45 .len [.tm 44],
 u1 46 .mov [.cn (.int .i64 0)]])
 (.block 2 (.loop (.seq (.region [u1 47 (.cmp .lss) [.tm 46, .tm 45]])
 (.seq (.cond (.tm 47) .skip
  (.exit 2))
 (.seq (.block 3 (.seq (.region [u1 48 (.idxAddr 1) [.tm 44, .tm 46],
 u1 49 (.load false 1) [.tm 48],
 u1 16 .mov [.tm 49]])
 (.seq (.region [u1 50 .mov [.tm 11],
 u1 51 .mov [.tm 1],
 u1 52 .mov [.tm 16],
 u1 53 (.idxAddr 4) [.tm 51, .tm 52],
 u1 54 (.fieldAddr 3) [.tm 53],
 u1 55 (.load false 1) [.tm 54],
 u1 56 (.ari .sub) [.tm 50, .tm 55],
 u1 11 .mov [.tm 56]])
 (.region [u1 57 .mov [.tm 14],
 u1 58 .mov [.tm 16],
 u1 59 .mov [.tm 3],
 u1 60 .mov [.tm 11],
 u1 61 (.ari .mul) [.tm 59, .tm 60],
 u1 62 (.build [(.int .i64 0), (.int .i64 0)] [(1, 1)]) [.tm 61],
 u1 63 (.idxAddr 2) [.tm 57, .tm 58],
 u0 (.store 2) [.tm 63, .tm 62]]))))
 (.region [u1 64 (.ari .add) [.tm 46, .cn (.int .i64 1)],
 u1 46 .mov [.tm 64]])))))))
 (.seq (.region [u1 65 .mov [.tm 14],
 u1 8 .mov [.tm 65],
 u1 9 .mov [.cn (.int .i64 0)]])
 .ret))))))))) }
theorem v11_is : vfunc Try.prog Try.f11 = some v11 := by kernel_rfl
def DriF (h : Hal) (l : List Wk) (rate : Int) (o : List Int) : List Int × Int :=
  if chkF h l ≠ 0 then ([], chkF h l) else if rate < 0 ∨ 1000000 < rate then ([], 2) else if ordF l o = true then (drF l rate o, 0) else ([], 4)
def DriC : Ctr := { alias := false, of := fun l => match l with
  | [.agg [.vs _ _ n sz get], .vs _ _ n' sz' get', .vs _ _ n'' sz'' get'', .int .i64 rate] => .ex Hal fun h => .ex (List Wk) fun l => .ex (List Int) fun o => .pre (lsP 1 encR n sz get h ∧ lsP 4 encK n' sz' get' l ∧ lsP 1 enc1 n'' sz'' get'' o ∧ ((h.length ≤ 1000000000000 ∧ l.length ≤ 1000000000000) ∧ (∀ x ∈ h, x.v.length ≤ 1000000000000) ∧ okW l) ∧ o.length ≤ 1000000000000) (.all Bool fun z => .fin (.tup [.vs true z (DriF h l rate o).1.length 2 (fun k => [.int .i64 0, .int .i64 ((DriF h l rate o).1.getD k default)]), .int .i64 (DriF h l rate o).2]) [])
  | _ => noC }
def TI0 : Env := { ct := fun n => match n with | 25 => some inC | 13 => some chkC | 23 => some ordC | _ => none, fn := fun _ => none, meth := fun _ _ => none }
theorem TI0_ct25 : TI0.ct 25 = some inC := rfl
theorem TI0_ct13 : TI0.ct 13 = some chkC := rfl
theorem TI0_ct23 : TI0.ct 23 = some ordC := rfl
theorem TI0_ok : EnvOk Try.prog TI0 := by
  refine ⟨fun f c h => ?_, fun f vf h => ?_, (fun _ _ _ h => by cases h), by kernel_rfl⟩
  · simp only [TI0] at h
    split at h
    · cases h; exact ⟨in_ok, Try.f25, Try.func25, by kernel_rfl, by kernel_rfl⟩
    · cases h; exact ⟨chk_ok, Try.f13, Try.func13, by kernel_rfl, by kernel_rfl⟩
    · cases h; exact ⟨ord_ok, Try.f23, Try.func23, by kernel_rfl, by kernel_rfl⟩
    · cases h
  · cases h

theorem Dri_ok : DriC.ok Try.prog 11 := by
  refine contract Try.func11 v11_is TI0_ok 300 DriC fun args k h => ?_
  simp only [DriC] at h
  split at h
  · rename_i t z n sz get t' z' n' sz' get' t'' z'' n'' sz'' get'' rate
    obtain ⟨h0, l, o, ⟨⟨rfl, rfl, hg⟩, ⟨rfl, rfl, hg'⟩, ⟨rfl, rfl, hg''⟩, ⟨hl, hh, hw⟩, ho⟩, h⟩ := h
    have h : ∀ z : Bool, k (.tup [.vs true z (DriF h0 l rate o).1.length 2 (fun k => [.int .i64 0, .int .i64 ((DriF h0 l rate o).1.getD k default)]), .int .i64 (DriF h0 l rate o).2]) [] := h
    refine ⟨[.agg [.vs false z h0.length 1 (fun k => encR (h0.getD k default))], .vs false z' l.length 4 (fun k => encK (l.getD k default)), .vs false z'' o.length 1 (fun k => enc1 (o.getD k default)), .int .i64 rate], ⟨⟨⟨fun h => (by cases h), rfl, rfl, rfl, hg⟩, trivial⟩, ⟨fun h => (by cases h), rfl, rfl, rfl, hg'⟩, ⟨fun h => (by cases h), rfl, rfl, rfl, hg''⟩, ⟨rfl, rfl⟩, trivial⟩, ?_⟩
    dsimp only [v11, TI0_ct13, TI0_ct23, TI0_ct25, inC, chkC, ordC, encK, go_sem, Option.bind, Option.map, List.append_nil, Nat.beq, List.cons_append, List.nil_append, List.append_eq, List.map_cons, List.map_nil, ite_self, reduceIte]
    simp only [true_and, and_true, imp_self, implies_true, decide_eq_true_eq, decide_eq_false_iff_not, Nat.reduceAdd, Nat.reduceLeDiff, Bool.not_not, reduceCtorEq, false_imp_iff, Bool.not_eq_true', Bool.not_eq_false', Bool.false_eq_true, and_self, forall_const, ne_eq, not_false_eq_true, Nat.reduceEqDiff]
    unfold DriF at h
    refine ⟨h0, l, ⟨⟨rfl, rfl, fun k _ => leXL_self _⟩, ⟨rfl, rfl, fun k _ => leXL_self _⟩, hl, hh, hw⟩, fun hc => ?_, fun hc => ?_⟩
    · rw [if_pos hc] at h
      exact ans_le (h true) (by simp [expo, view, viewL, leL, le]) (fun _ => by simp [freshS, freshL])
    rw [if_neg (by omega)] at h
    refine ⟨fun hr => ?_, fun hr => ?_⟩
    · rw [if_pos (by rw [← Bool.not_eq_true, inF_t] at hr; omega)] at h
      exact ans_le (h true) (by simp [expo, view, viewL, leL, le]) (fun _ => by simp [freshS, freshL])
    have hr' : 0 ≤ rate ∧ rate ≤ 1000000 := inF_t.1 hr
    rw [if_neg (by omega)] at h
    obtain ⟨c1, c2, c3, c4, c5⟩ := chk_facts hc
    refine ⟨l, o, ⟨⟨rfl, rfl, fun k _ => leXL_self _⟩, ⟨rfl, rfl, fun k _ => leXL_self _⟩, c2, ho, hw, aft_of_good c3⟩, fun hb => ?_, fun hb => ?_⟩
    · rw [if_neg (by simpa using hb)] at h
      exact ans_le (h true) (by simp [expo, view, viewL, leL, le]) (fun _ => by simp [freshS, freshL])
    have hb : ordF l o = true := by simpa using hb
    rw [if_pos hb] at h
    obtain ⟨r1, hor⟩ := ord_rng hb
    refine Loop.keep [1, 0, 0, 26, 0] Nat (fun i => [(11, .int .i64 (sumW (minF l) i)), (32, .int .i64 i)]) (fun _ => []) [] (fun i => i ≤ l.length) (fun i => l.length - i) ?_ ?_
    · refine ⟨0, Nat.zero_le _, ?_⟩
      dsimp only [go_sem, Option.bind, Option.map, List.append_nil, Nat.beq, List.cons_append, List.nil_append, List.append_eq, List.map_cons, List.map_nil, ite_self, reduceIte]
      simp only [leS_mk, leL_cons, leL_nil, le_junk, le_int, le_bool, le_nil, leLL_nil, leLL_cons, leH_cons, leH_nil, leH1_box, leH1_own, leH1_gone, le_vs, le_agg, le_tup, le_ptr, le_own, le_xp, le_fn, le_opt, le_val, le_elem, le_nil_own, le_nil_vs, leH_ghost, leL_chunk, leXL_id, bnd_int, bnd_bool, bnd_val, bnd_nil, bnd_junk, bnd_vs, bnd_xp, bnd_agg, bnd_tup, bnd_ptr, bnd_own, bnd_elem, bnd_fn, bnd_iface, bnd_opt, bnd_row, bnd_rcell, bnd_imap, bnd_smp, le_row, le_rcell, le_imap, le_smp, leH1_smap, bndL_nil, bndL_cons, lenH_cons, lenH_nil, imp_self, implies_true, true_and, and_true]
      simp [sumW]
    · rintro i hi
      have hsw := sumW_rng c3 i hi
      dsimp only [encR, encK, enc1, go_sem, Option.bind, Option.map, List.append_nil, Nat.beq, List.cons_append, List.nil_append, List.append_eq, List.map_cons, List.map_nil, ite_self, reduceIte]
      simp only [true_and, and_true, imp_self, implies_true, decide_eq_true_eq, decide_eq_false_iff_not, Nat.reduceAdd, Nat.reduceLeDiff, Bool.not_not, reduceCtorEq, false_imp_iff, Bool.not_eq_true', Bool.not_eq_false', Bool.false_eq_true, and_self, forall_const, ne_eq, not_false_eq_true, Nat.reduceEqDiff, Int.toNat_natCast]
      refine ⟨fun hlt => ?_, fun hge => ?_⟩
      · have hi' : i < l.length := by omega
        have hm : 1 ≤ minF l i ∧ minF l i ≤ 600 := good_mi c3 hi'
        refine ⟨⟨by omega, hlt⟩, rfl, i + 1, by omega, by omega, ?_⟩
        have e : IntKind.i64.wrap (sumW (minF l) i + (l.getD i default).mi) = sumW (minF l) (i + 1) := w6_raw (x := sumW (minF l) i + minF l i) (by omega) (by omega)
        rw [e]
        simp only [leS_mk, leL_cons, leL_nil, le_junk, le_int, le_bool, le_nil, leLL_nil, leLL_cons, leH_cons, leH_nil, leH1_box, leH1_own, leH1_gone, le_vs, le_agg, le_tup, le_ptr, le_own, le_xp, le_fn, le_opt, le_val, le_elem, le_nil_own, le_nil_vs, leH_ghost, leL_chunk, leXL_id, bnd_int, bnd_bool, bnd_val, bnd_nil, bnd_junk, bnd_vs, bnd_xp, bnd_agg, bnd_tup, bnd_ptr, bnd_own, bnd_elem, bnd_fn, bnd_iface, bnd_opt, bnd_row, bnd_rcell, bnd_imap, bnd_smp, le_row, le_rcell, le_imap, le_smp, leH1_smap, bndL_nil, bndL_cons, lenH_cons, lenH_nil, imp_self, implies_true, true_and, and_true]
        exact w_succ hi' (by omega)
      · obtain rfl : i = l.length := by omega
        refine ⟨⟨by omega, by omega, by omega, by unfold capOk; omega⟩, ?_⟩
        refine Loop.keep [1, 1, 10, 29, 0] Nat (fun i => [(11, .int .i64 (sumW (minF l) l.length - sumO (minF l) (o.take i))), (46, .int .i64 i)]) (fun i => [(1, .own false 2 l.length (fun k => [.int .i64 0, .int .i64 ((drRow l rate (sumW (minF l) l.length) o i).getD k default)]))]) [] (fun i => i ≤ o.length) (fun i => o.length - i) ?_ ?_
        · refine ⟨0, Nat.zero_le _, ?_⟩
          dsimp only [go_sem, Option.bind, Option.map, List.append_nil, Nat.beq, List.cons_append, List.nil_append, List.append_eq, List.map_cons, List.map_nil, ite_self, reduceIte]
          simp only [leS_mk, leL_cons, leL_nil, le_junk, le_int, le_bool, le_nil, leLL_nil, leLL_cons, leH_cons, leH_nil, leH1_box, leH1_own, leH1_gone, le_vs, le_agg, le_tup, le_ptr, le_own, le_xp, le_fn, le_opt, le_val, le_elem, le_nil_own, le_nil_vs, leH_ghost, leL_chunk, leXL_id, bnd_int, bnd_bool, bnd_val, bnd_nil, bnd_junk, bnd_vs, bnd_xp, bnd_agg, bnd_tup, bnd_ptr, bnd_own, bnd_elem, bnd_fn, bnd_iface, bnd_opt, bnd_row, bnd_rcell, bnd_imap, bnd_smp, le_row, le_rcell, le_imap, le_smp, leH1_smap, bndL_nil, bndL_cons, lenH_cons, lenH_nil, imp_self, implies_true, true_and, and_true]
          exact ⟨⟨by simp [sumO], by omega, rfl⟩, fun k hk => (drRow_0 hk).symm⟩
        · rintro i hi
          have hso := sumO_rng c3 hor i hi
          dsimp only [encR, encK, enc1, go_sem, Option.bind, Option.map, List.append_nil, Nat.beq, List.cons_append, List.nil_append, List.append_eq, List.map_cons, List.map_nil, ite_self, reduceIte]
          simp only [true_and, and_true, imp_self, implies_true, decide_eq_true_eq, decide_eq_false_iff_not, Nat.reduceAdd, Nat.reduceLeDiff, Bool.not_not, reduceCtorEq, false_imp_iff, Bool.not_eq_true', Bool.not_eq_false', Bool.false_eq_true, and_self, forall_const, ne_eq, not_false_eq_true, Nat.reduceEqDiff, Int.toNat_natCast]
          refine ⟨fun hlt => ?_, fun hge => ?_⟩
          · have hi' : i < o.length := by omega
            obtain ⟨a0, a1⟩ := hor i hi'
            have hm : 1 ≤ minF l (o.getD i default).toNat ∧ minF l (o.getD i default).toNat ≤ 600 := good_mi c3 (by omega)
            refine ⟨⟨by omega, hlt⟩, ⟨a0, a1⟩, ⟨a0, a1⟩, by omega, i + 1, by omega, by omega, ?_⟩
            have hsw' := sumW_rng c3 l.length (Nat.le_refl _)
            have e0 := sumO_succ (f := minF l) hi'
            have e : IntKind.i64.wrap (sumW (minF l) l.length - sumO (minF l) (o.take i) - (l.getD (o.getD i default).toNat default).mi) = sumW (minF l) l.length - sumO (minF l) (o.take (i + 1)) := by
              refine Eq.trans (w6_raw (x := sumW (minF l) l.length - sumO (minF l) (o.take i) - minF l (o.getD i default).toNat) (by omega) (by omega)) ?_
              rw [e0]; omega
            have hp := mul_small (x := sumW (minF l) l.length - sumO (minF l) (o.take (i + 1))) hr'.1 hr'.2 (by omega) (by omega)
            rw [e, w6_raw (x := rate * (sumW (minF l) l.length - sumO (minF l) (o.take (i + 1)))) (by omega) (by omega)]
            simp only [leS_mk, leL_cons, leL_nil, le_junk, le_int, le_bool, le_nil, leLL_nil, leLL_cons, leH_cons, leH_nil, leH1_box, leH1_own, leH1_gone, le_vs, le_agg, le_tup, le_ptr, le_own, le_xp, le_fn, le_opt, le_val, le_elem, le_nil_own, le_nil_vs, leH_ghost, leL_chunk, leXL_id, bnd_int, bnd_bool, bnd_val, bnd_nil, bnd_junk, bnd_vs, bnd_xp, bnd_agg, bnd_tup, bnd_ptr, bnd_own, bnd_elem, bnd_fn, bnd_iface, bnd_opt, bnd_row, bnd_rcell, bnd_imap, bnd_smp, le_row, le_rcell, le_imap, le_smp, leH1_smap, bndL_nil, bndL_cons, lenH_cons, lenH_nil, imp_self, implies_true, true_and, and_true]
            refine ⟨⟨by omega, w_succ hi' (by omega)⟩, fun k hk => ?_⟩
            rw [drRow_get hk]
            by_cases hki : k = (o.getD i default).toNat
            · rw [if_pos hki, if_pos hki]; exact leL_self [.int _ _, .int _ _] ⟨trivial, trivial, trivial⟩
            · rw [if_neg hki, if_neg hki]; exact leL_self [.int _ _, .int _ _] ⟨trivial, trivial, trivial⟩
          · obtain rfl : i = o.length := by omega
            refine ans_le (h false) ?_ (fun _ => by simp [freshS, freshL])
            dsimp only [expo, go_sem, Option.bind, Option.map, List.append_nil, Nat.beq, List.cons_append, List.nil_append, List.append_eq, List.map_cons, List.map_nil, ite_self, reduceIte]
            simp only [drF, drRow_len, leS_mk, leL_cons, leL_nil, le_junk, le_int, le_bool, le_nil, leLL_nil, leLL_cons, leH_cons, leH_nil, leH1_box, leH1_own, leH1_gone, le_vs, le_agg, le_tup, le_ptr, le_own, le_xp, le_fn, le_opt, le_val, le_elem, le_nil_own, le_nil_vs, leH_ghost, leL_chunk, leXL_id, bnd_int, bnd_bool, bnd_val, bnd_nil, bnd_junk, bnd_vs, bnd_xp, bnd_agg, bnd_tup, bnd_ptr, bnd_own, bnd_elem, bnd_fn, bnd_iface, bnd_opt, bnd_row, bnd_rcell, bnd_imap, bnd_smp, le_row, le_rcell, le_imap, le_smp, leH1_smap, bndL_nil, bndL_cons, lenH_cons, lenH_nil, imp_self, implies_true, true_and, and_true]
  · exact h.1.elim
end Go.Proofs.Yteioilioobichaa

/- Tuning, in plain Lean: drift, from the back. -/
/- Tuning, in plain Lean: drift, from the back. -/
set_option linter.all false
namespace Go.Proofs.Yteioilioobichaa
open Go Go.Vx

end Go.Proofs.Yteioilioobichaa

/- Tuning, walked: the reference's Drift. -/
/- Tuning, walked: the reference's Drift. -/
set_option linter.all false
namespace Go.Proofs.Yteioilioobichaa
open Go Go.Vx
set_option maxRecDepth 100000
set_option maxHeartbeats 4000000

end Go.Proofs.Yteioilioobichaa

/- Tuning, walked: fewest of the program. -/
/- Tuning, walked: fewest of the program. -/
set_option linter.all false
namespace Go.Proofs.Yteioilioobichaa
open Go Go.Vx
set_option maxRecDepth 100000
set_option maxHeartbeats 4000000

def v33 : VF := { ntmps := 91, res := [.tmp 4, .tmp 5], body :=
 (.seq (.region [u1 3 .box [.tm 1],
 u1 4 .mov [.cn (.int .i64 0)],
 u1 5 .mov [.cn (.int .i64 0)]])
 (.seq (.region [u1 6 .mov [.cn (.int .i64 0)],
 u1 7 .mov [.cn (.int .i64 (-1))]])
 (.seq (.seq (.region [u1 13 .mov [.tm 0],
 u1 14 .nilCheck [.tm 13],
 u1 15 (.fieldAddr 1) [.tm 14],
 u1 16 (.load false 1) [.tm 15],
 u1 17 .len [.tm 16],
 u1 18 .mov [.cn (.int .i64 0)]])
 (.block 0 (.loop (.seq (.region [u1 19 (.cmp .lss) [.tm 18, .tm 17]])
 (.seq (.cond (.tm 19) .skip
  (.exit 0))
 (.seq (.block 1 (.seq (.region [u1 20 .mov [.tm 18],
 u1 21 (.idxAddr 4) [.tm 16, .tm 18],
 u1 22 (.load true 4) [.tm 21],
 u1 9 (.alloc [(.val (.string ⟨#[]⟩)), (.int .i64 0), .nil, (.int .i64 0)]) [],
 u1 8 .mov [.tm 20],
 u0 (.store 4) [.tm 9, .tm 22]])
 (.seq (.seq (.draw [] [w1 23 (.fieldAddr 0) [.tm 3],
 w1 24 (.load false 1) [.tm 23],
 w1 25 .mov [.tm 0],
 w1 26 .nilCheck [.tm 25],
 w1 27 (.fieldAddr 1) [.tm 26],
 w1 28 (.load false 1) [.tm 27],
 w1 29 .mov [.tm 8],
 w1 30 (.call 28) [.tm 24, .tm 28, .tm 29],
 w1 31 .not [.tm 30]])
 (.cond (.tm 31) (.exit 1)
  .skip))
 (.seq (.draw [(10, .box [(.int .u64 0), (.int .i64 0)])] [w1 32 (.fieldAddr 0) [.tm 3],
 w1 33 (.load false 1) [.tm 32],
 w1 34 .mov [.tm 8],
 w1 38 (.fieldAddr 1) [.tm 9],
 w1 39 (.load false 1) [.tm 38],
 w1 35 (.buildSlice 1 1 [(.int .i64 0)] [(0, 1)]) [.tm 34],
 w1 36 (.call 29) [.tm 35],
 w1 37 (.bit .or) [.tm 33, .tm 36],
 w1 40 (.build [(.int .u64 0), (.int .i64 0)] [(0, 1), (1, 1)]) [.tm 37, .tm 39],
 w0 (.store 2) [.tm 10, .tm 40]])
 (.seq (.draw [] [w1 42 .mov [.tm 0],
 w1 43 .nilCheck [.tm 42],
 w1 44 (.fieldAddr 2) [.tm 43],
 w1 45 (.load false 1) [.tm 44],
 w1 46 (.load true 2) [.tm 10],
 w1 47 (.mapGet [.u64, .i64]) [.tm 45, .tm 46],
 w1 41 .mov [.tm 47],
 w1 48 (.ext 0) [.tm 41],
 w1 49 (.ext 1) [.tm 41],
 w1 11 .mov [.tm 48],
 w1 12 .mov [.tm 49]])
 (.seq (.seq (.region [u1 50 .mov [.tm 12],
 u1 51 .not [.tm 50]])
 (.cond (.tm 51) (.region [u1 53 .mov [.tm 0],
 u1 54 (.load true 2) [.tm 10],
 u1 55 (.call 33) [.tm 53, .tm 54],
 u1 52 .mov [.tm 55],
 u1 56 (.ext 0) [.tm 52],
 u1 57 (.ext 1) [.tm 52],
 u1 11 .mov [.tm 56]])
  .skip))
 (.seq (.draw [] [w1 58 .mov [.tm 11],
 w1 59 .mov [.tm 0],
 w1 60 .nilCheck [.tm 59],
 w1 61 (.fieldAddr 0) [.tm 60],
 w1 62 (.fieldAddr 0) [.tm 61],
 w1 63 (.load false 1) [.tm 62],
 w1 64 (.fieldAddr 1) [.tm 3],
 w1 65 (.load false 1) [.tm 64],
 w1 66 (.idxAddr 1) [.tm 63, .tm 65],
 w1 67 (.load false 1) [.tm 66],
 w1 68 (.fieldAddr 1) [.tm 9],
 w1 69 (.load false 1) [.tm 68],
 w1 70 (.idxAddr 1) [.tm 67, .tm 69],
 w1 71 (.load false 1) [.tm 70],
 w1 72 (.ari .add) [.tm 58, .tm 71],
 w1 11 .mov [.tm 72]])
 (.seq (.region [u1 73 .mov [.tm 7],
 u1 74 (.cmp .lss) [.tm 73, .cn (.int .i64 0)],
 u1 75 .mov [.tm 74],
 u2 76 75 false .mov [.tm 11],
 u2 77 75 false .mov [.tm 6],
 u2 78 75 false (.cmp .lss) [.tm 76, .tm 77],
 u1 79 .or [.tm 75, .tm 78]])
 (.cond (.tm 79) (.region [u1 80 .mov [.tm 11],
 u1 81 .mov [.tm 8],
 u1 6 .mov [.tm 80],
 u1 7 .mov [.tm 81]])
  .skip)))))))))
 (.region [u1 82 (.ari .add) [.tm 18, .cn (.int .i64 1)],
 u1 18 .mov [.tm 82]])))))))
 (.seq (.draw [] [w1 83 .mov [.tm 0],
 w1 84 .nilCheck [.tm 83],
 w1 85 (.fieldAddr 2) [.tm 84],
 w1 86 (.load false 1) [.tm 85],
 w1 87 (.load true 2) [.tm 3],
 w1 88 .mov [.tm 6],
 w0 (.mapPut [.u64, .i64]) [.tm 86, .tm 87, .tm 88]])
 (.seq (.region [u1 89 .mov [.tm 6],
 u1 90 .mov [.tm 7],
 u1 4 .mov [.tm 89],
 u1 5 .mov [.tm 90]])
 .ret))))) }
theorem v33_is : vfunc Try.prog Try.f33 = some v33 := by kernel_rfl

def FewC (h : Hal) (l : List Wk) (k : List Int) (v : Int) : Prop := v = (Few h l (k.getD 0 0).toNat (k.getD 1 0)).1
def feP (h : Hal) (l : List Wk) (S : Nat) (p : Int) : Prop := (S < 2 ^ l.length ∧ 0 ≤ p ∧ p < (h.length : Int)) ∧ goodF h l = true ∧ h.length ≤ 12 ∧ l.length ≤ 12 ∧ okW l
def feC (N : Nat) : Ctr := { alias := false, of := fun l => match l with
  | [.xp _ [.vs _ _ n sz get, .vs _ _ n' sz' get', .imap kk C], .agg [.int .u64 s, .int .i64 p]] => .ex Hal fun h => .ex (List Wk) fun l => .ex Nat fun S => .pre (lsP 1 encR n sz get h ∧ lsP 4 encK n' sz' get' l ∧ (kk = [.u64, .i64] ∧ C = FewC h l) ∧ s = S ∧ feP h l S p ∧ leftN S l.length < N) (.fin (.tup [.int .i64 (Few h l S p).1, .int .i64 (Few h l S p).2]) [])
  | _ => noC }
def feE (N : Nat) : Env := { ct := fun n => match n with | 33 => some (feC N) | 28 => some mayC | 29 => some ofC | _ => none, fn := fun _ => none, meth := fun _ _ => none }
theorem feE_ct (N : Nat) : (feE N).ct 33 = some (feC N) := rfl
theorem feE_may (N : Nat) : (feE N).ct 28 = some mayC := rfl
theorem feE_of (N : Nat) : (feE N).ct 29 = some ofC := rfl
theorem feE_ok {N : Nat} (hN : (feC N).ok Try.prog 33) : EnvOk Try.prog (feE N) := by
  refine ⟨fun f c h => ?_, fun f vf h => ?_, (fun _ _ _ h => by cases h), by kernel_rfl⟩
  · simp only [feE] at h
    split at h
    · cases h; exact ⟨hN, Try.f33, Try.func33, by kernel_rfl, by kernel_rfl⟩
    · cases h; exact ⟨may_ok, Try.f28, Try.func28, by kernel_rfl, by kernel_rfl⟩
    · cases h; exact ⟨of_ok, Try.f29, Try.func29, by kernel_rfl, by kernel_rfl⟩
    · cases h
  · cases h
theorem few_step {N : Nat} (hN : (feC N).ok Try.prog 33) : (feC (N + 1)).ok Try.prog 33 := by
  refine contract Try.func33 v33_is (feE_ok hN) 300 (feC (N + 1)) fun args k h => ?_
  simp only [feC] at h
  split at h
  · rename_i t tz z n sz get tz' z' n' sz' get' kk C s p
    obtain ⟨h0, l, S, ⟨⟨rfl, rfl, hg⟩, ⟨rfl, rfl, hg'⟩, ⟨rfl, rfl⟩, rfl, hP, hlt⟩, h⟩ := h
    obtain ⟨⟨hS, hp0, hp1⟩, hgood, hh12, hl12, hw⟩ := hP
    have h : k _ [] := h
    refine ⟨[.xp t [.vs false z h0.length 1 (fun k => encR (h0.getD k default)), .vs false z' l.length 4 (fun k => encK (l.getD k default)), .imap [.u64, .i64] (FewC h0 l)], .agg [.int .u64 S, .int .i64 p]], ⟨⟨id, ⟨fun h => (by cases h), rfl, rfl, rfl, hg⟩, ⟨fun h => (by cases h), rfl, rfl, rfl, hg'⟩, by simp [leX], trivial⟩, by simp [leL, le], trivial⟩, ?_⟩
    dsimp only [v33, encK, go_sem, Option.bind, Option.map, List.append_nil, Nat.beq, List.cons_append, List.nil_append, List.append_eq, List.map_cons, List.map_nil, ite_self, reduceIte]
    simp only [true_and, and_true, imp_self, implies_true, decide_eq_true_eq, decide_eq_false_iff_not, Nat.reduceAdd, Nat.reduceLeDiff, Bool.not_not, reduceCtorEq, false_imp_iff, Bool.not_eq_true', Bool.not_eq_false', Bool.false_eq_true, and_self, forall_const, ne_eq, not_false_eq_true, Nat.reduceEqDiff]
    have hsm := aft_small (aft_of_good hgood) hl12
    refine Loop.keep [0, 2, 12, 0] Nat (fun i => [(6, .int .i64 (fRow h0 l (fun s p => (Few h0 l s p).1) S p i).1), (7, .int .i64 (fRow h0 l (fun s p => (Few h0 l s p).1) S p i).2), (18, .int .i64 i)]) (fun _ => []) [] (fun i => i ≤ l.length) (fun i => l.length - i) ?_ ?_
    · refine ⟨0, Nat.zero_le _, ?_⟩
      dsimp only [go_sem, Option.bind, Option.map, List.append_nil, Nat.beq, List.cons_append, List.nil_append, List.append_eq, List.map_cons, List.map_nil, ite_self, reduceIte]
      simp only [leS_mk, leL_cons, leL_nil, le_junk, le_int, le_bool, le_nil, leLL_nil, leLL_cons, leH_cons, leH_nil, leH1_box, leH1_own, leH1_gone, le_vs, le_agg, le_tup, le_ptr, le_own, le_xp, le_fn, le_opt, le_val, le_elem, le_nil_own, le_nil_vs, leH_ghost, leL_chunk, leXL_id, bnd_int, bnd_bool, bnd_val, bnd_nil, bnd_junk, bnd_vs, bnd_xp, bnd_agg, bnd_tup, bnd_ptr, bnd_own, bnd_elem, bnd_fn, bnd_iface, bnd_opt, bnd_row, bnd_rcell, bnd_imap, bnd_smp, le_row, le_rcell, le_imap, le_smp, leH1_smap, bndL_nil, bndL_cons, lenH_cons, lenH_nil, imp_self, implies_true, true_and, and_true]
      simp [fRow]
    · rintro i hi
      dsimp only [feE_ct, feE_may, feE_of, feC, mayC, ofC, encR, encK, enc1, go_sem, Option.bind, Option.map, List.append_nil, Nat.beq, List.cons_append, List.nil_append, List.append_eq, List.map_cons, List.map_nil, ite_self, reduceIte]
      simp only [true_and, and_true, imp_self, implies_true, decide_eq_true_eq, decide_eq_false_iff_not, Nat.reduceAdd, Nat.reduceLeDiff, Bool.not_not, reduceCtorEq, false_imp_iff, Bool.not_eq_true', Bool.not_eq_false', Bool.false_eq_true, and_self, forall_const, ne_eq, not_false_eq_true, Nat.reduceEqDiff, Int.toNat_natCast]
      refine ⟨fun hlt' => ?_, fun hge => ?_⟩
      · have hi' : i < l.length := by omega
        have hS64 := lt64 hl12 hS
        have hpl := good_pl hgood hi'
        have hrow := good_row hgood (by omega : p.toNat < h0.length)
        have hcost := hrow.2 (l.getD i default).pl.toNat (by omega)
        obtain ⟨G, hG⟩ : ∃ G, G = fRow h0 l (fun s p => (Few h0 l s p).1) S p i := ⟨_, rfl⟩
        have hfr : fRow h0 l (fun s p => (Few h0 l s p).1) S p (i + 1) = if mayF l S i = true then (if G.2 < 0 ∨ (Few h0 l (S ||| 2 ^ i) (l.getD i default).pl).1 + costF h0 p (l.getD i default).pl < G.1 then ((Few h0 l (S ||| 2 ^ i) (l.getD i default).pl).1 + costF h0 p (l.getD i default).pl, (i : Int)) else G) else G := by rw [hG]; rfl
        rw [← hG]
        refine ⟨⟨by omega, hlt'⟩, rfl, l, S, i, ⟨⟨rfl, rfl, fun k _ => leXL_self _⟩, ⟨rfl, hS64⟩, ⟨rfl, hi', by omega⟩, fun x hx => ⟨hsm x hx, (hw x hx).1⟩⟩, fun hm => ?_, fun hm => ⟨Nat.one_pos, [(i : Int)], ⟨⟨rfl, rfl, fun k hk => ?_⟩, smallL_one (by omega), by simp⟩, fun r hr => ?_⟩⟩
        · refine ⟨i + 1, by omega, by omega, ?_⟩
          rw [hfr, if_neg (by rw [hm]; simp)]
          simp only [leS_mk, leL_cons, leL_nil, le_junk, le_int, le_bool, le_nil, leLL_nil, leLL_cons, leH_cons, leH_nil, leH1_box, leH1_own, leH1_gone, le_vs, le_agg, le_tup, le_ptr, le_own, le_xp, le_fn, le_opt, le_val, le_elem, le_nil_own, le_nil_vs, leH_ghost, leL_chunk, leXL_id, bnd_int, bnd_bool, bnd_val, bnd_nil, bnd_junk, bnd_vs, bnd_xp, bnd_agg, bnd_tup, bnd_ptr, bnd_own, bnd_elem, bnd_fn, bnd_iface, bnd_opt, bnd_row, bnd_rcell, bnd_imap, bnd_smp, le_row, le_rcell, le_imap, le_smp, leH1_smap, bndL_nil, bndL_cons, lenH_cons, lenH_nil, imp_self, implies_true, true_and, and_true]
          exact ⟨by omega, w_succ hi' (by omega)⟩
        · obtain rfl : k = 0 := by omega
          exact leXL_self _
        · have eS : bitI .or .u64 (S : Int) ((maskF [(i : Int)] : Nat) : Int) = ((S ||| 2 ^ i : Nat) : Int) := by
            rw [maskF_one, u64_or hS64 (Nat.pow_lt_pow_right (by omega) (by omega))]
          rw [eS] at hr ⊢
          rw [if_pos hm] at hfr
          have hrng := FF_rng hgood l.length (S ||| 2 ^ i) (l.getD i default).pl hpl.1 hpl.2
          have hrng : 0 ≤ (Few h0 l (S ||| 2 ^ i) (l.getD i default).pl).1 ∧ (Few h0 l (S ||| 2 ^ i) (l.getD i default).pl).1 ≤ 1000 * l.length := hrng
          have ew : IntKind.i64.wrap ((Few h0 l (S ||| 2 ^ i) (l.getD i default).pl).1 + (h0.getD p.toNat default).v.getD (l.getD i default).pl.toNat default) = (Few h0 l (S ||| 2 ^ i) (l.getD i default).pl).1 + costF h0 p (l.getD i default).pl := w6_raw (by omega) (by omega)
          have hP' : feP h0 l (S ||| 2 ^ i) (l.getD i default).pl := ⟨⟨Nat.or_lt_two_pow hS (Nat.pow_lt_pow_right (by omega) hi'), hpl⟩, hgood, hh12, hl12, hw⟩
          have hlft := leftN_step hi' hm
          have hcol : (l.getD i default).pl < ((h0.getD p.toNat default).v.length : Int) := by rw [hrow.1]; exact hpl.2
          have hv : ∀ v, r = some v → v = (Few h0 l (S ||| 2 ^ i) (l.getD i default).pl).1 := fun v hv => hr v hv
          refine ⟨by omega, by omega, fun hn => ⟨h0, l, S ||| 2 ^ i, ⟨⟨rfl, rfl, fun k _ => leXL_self _⟩, ⟨rfl, rfl, fun k _ => leXL_self _⟩, rfl, rfl, hP', by omega⟩, by omega, by omega, ⟨hp0, hp1⟩, ⟨hpl.1, hcol⟩, ?_⟩, fun hs => ⟨⟨hp0, hp1⟩, ⟨hpl.1, hcol⟩, ?_⟩⟩
          · simp only [ew]
            refine ⟨fun hc => ⟨i + 1, by omega, by omega, ?_⟩, fun hc => ⟨i + 1, by omega, by omega, ?_⟩⟩
            · rw [Bool.or_eq_true, decide_eq_true_eq, decide_eq_true_eq] at hc
              rw [hfr, if_pos hc]
              simp only [leS_mk, leL_cons, leL_nil, le_junk, le_int, le_bool, le_nil, leLL_nil, leLL_cons, leH_cons, leH_nil, leH1_box, leH1_own, leH1_gone, le_vs, le_agg, le_tup, le_ptr, le_own, le_xp, le_fn, le_opt, le_val, le_elem, le_nil_own, le_nil_vs, leH_ghost, leL_chunk, leXL_id, bnd_int, bnd_bool, bnd_val, bnd_nil, bnd_junk, bnd_vs, bnd_xp, bnd_agg, bnd_tup, bnd_ptr, bnd_own, bnd_elem, bnd_fn, bnd_iface, bnd_opt, bnd_row, bnd_rcell, bnd_imap, bnd_smp, le_row, le_rcell, le_imap, le_smp, leH1_smap, bndL_nil, bndL_cons, lenH_cons, lenH_nil, imp_self, implies_true, true_and, and_true]
              exact ⟨by omega, w_succ hi' (by omega)⟩
            · rw [Bool.or_eq_false_iff, decide_eq_false_iff_not, decide_eq_false_iff_not] at hc
              rw [hfr, if_neg (by omega)]
              simp only [leS_mk, leL_cons, leL_nil, le_junk, le_int, le_bool, le_nil, leLL_nil, leLL_cons, leH_cons, leH_nil, leH1_box, leH1_own, leH1_gone, le_vs, le_agg, le_tup, le_ptr, le_own, le_xp, le_fn, le_opt, le_val, le_elem, le_nil_own, le_nil_vs, leH_ghost, leL_chunk, leXL_id, bnd_int, bnd_bool, bnd_val, bnd_nil, bnd_junk, bnd_vs, bnd_xp, bnd_agg, bnd_tup, bnd_ptr, bnd_own, bnd_elem, bnd_fn, bnd_iface, bnd_opt, bnd_row, bnd_rcell, bnd_imap, bnd_smp, le_row, le_rcell, le_imap, le_smp, leH1_smap, bndL_nil, bndL_cons, lenH_cons, lenH_nil, imp_self, implies_true, true_and, and_true]
              exact ⟨by omega, w_succ hi' (by omega)⟩
          · obtain ⟨v, rfl⟩ := Option.isSome_iff_exists.1 hs
            obtain rfl := hv v rfl
            simp only [Option.getD_some, ew]
            refine ⟨fun hc => ⟨i + 1, by omega, by omega, ?_⟩, fun hc => ⟨i + 1, by omega, by omega, ?_⟩⟩
            · rw [Bool.or_eq_true, decide_eq_true_eq, decide_eq_true_eq] at hc
              rw [hfr, if_pos hc]
              simp only [leS_mk, leL_cons, leL_nil, le_junk, le_int, le_bool, le_nil, leLL_nil, leLL_cons, leH_cons, leH_nil, leH1_box, leH1_own, leH1_gone, le_vs, le_agg, le_tup, le_ptr, le_own, le_xp, le_fn, le_opt, le_val, le_elem, le_nil_own, le_nil_vs, leH_ghost, leL_chunk, leXL_id, bnd_int, bnd_bool, bnd_val, bnd_nil, bnd_junk, bnd_vs, bnd_xp, bnd_agg, bnd_tup, bnd_ptr, bnd_own, bnd_elem, bnd_fn, bnd_iface, bnd_opt, bnd_row, bnd_rcell, bnd_imap, bnd_smp, le_row, le_rcell, le_imap, le_smp, leH1_smap, bndL_nil, bndL_cons, lenH_cons, lenH_nil, imp_self, implies_true, true_and, and_true]
              exact ⟨by omega, w_succ hi' (by omega)⟩
            · rw [Bool.or_eq_false_iff, decide_eq_false_iff_not, decide_eq_false_iff_not] at hc
              rw [hfr, if_neg (by omega)]
              simp only [leS_mk, leL_cons, leL_nil, le_junk, le_int, le_bool, le_nil, leLL_nil, leLL_cons, leH_cons, leH_nil, leH1_box, leH1_own, leH1_gone, le_vs, le_agg, le_tup, le_ptr, le_own, le_xp, le_fn, le_opt, le_val, le_elem, le_nil_own, le_nil_vs, leH_ghost, leL_chunk, leXL_id, bnd_int, bnd_bool, bnd_val, bnd_nil, bnd_junk, bnd_vs, bnd_xp, bnd_agg, bnd_tup, bnd_ptr, bnd_own, bnd_elem, bnd_fn, bnd_iface, bnd_opt, bnd_row, bnd_rcell, bnd_imap, bnd_smp, le_row, le_rcell, le_imap, le_smp, leH1_smap, bndL_nil, bndL_cons, lenH_cons, lenH_nil, imp_self, implies_true, true_and, and_true]
              exact ⟨by omega, w_succ hi' (by omega)⟩
      · obtain rfl : i = l.length := by omega
        rw [← Few_eq]
        exact ⟨rfl, ans_le (show k _ [] from h) (by simp [expo, view, viewL, leL, le]) (fun _ => by simp [freshS, freshL])⟩
  · exact h.1.elim
theorem few_zero : (feC 0).ok Try.prog 33 := by
  intro args vs w F up k hc fs
  simp only [feC] at hc
  split at hc
  · obtain ⟨h0, l, S, ⟨_, _, _, _, _, hm⟩, _⟩ := hc
    omega
  · exact hc.1.elim
theorem few_all : ∀ N, (feC N).ok Try.prog 33
  | 0 => few_zero
  | N + 1 => few_step (few_all N)
def fewC : Ctr := feC 13
theorem few_ok : fewC.ok Try.prog 33 := few_all 13
end Go.Proofs.Yteioilioobichaa

/- Tuning, in plain Lean: the best order. -/
/- Tuning, in plain Lean: the best order. -/
set_option linter.all false
namespace Go.Proofs.Yteioilioobichaa
open Go Go.Vx

/-- What a work costs, with all that follows. -/
def cndG (h : Hal) (l : List Wk) (G : Nat → Int → Int) (s : Nat) (p : Int) (i : Nat) : Int := G (s ||| 2 ^ i) (l.getD i default).pl + costF h p (l.getD i default).pl
def cnd (h : Hal) (l : List Wk) (s : Nat) (p : Int) (i : Nat) : Int := cndG h l (fun s p => (Few h l s p).1) s p i
theorem fRow_spec {h : Hal} {l : List Wk} {G : Nat → Int → Int} {s : Nat} {p : Int} : ∀ i, ((fRow h l G s p i).2 = -1 ∧ (fRow h l G s p i).1 = 0 ∧ ∀ j, j < i → mayF l s j = false) ∨ ∃ a : Nat, a < i ∧ (fRow h l G s p i).2 = (a : Int) ∧ mayF l s a = true ∧ (fRow h l G s p i).1 = cndG h l G s p a ∧ (∀ j, j < i → mayF l s j = true → cndG h l G s p a ≤ cndG h l G s p j) ∧ ∀ j, j < a → mayF l s j = true → cndG h l G s p a < cndG h l G s p j
  | 0 => .inl ⟨rfl, rfl, fun j hj => by omega⟩
  | i + 1 => by
    have ih := fRow_spec (h := h) (l := l) (G := G) (s := s) (p := p) i
    simp only [fRow]
    by_cases hm : mayF l s i = true
    · rw [if_pos hm]
      rcases ih with ⟨e1, e2, e3⟩ | ⟨a, h1, h2, h3, h4, h5, h6⟩
      · rw [if_pos (.inl (by omega))]
        refine .inr ⟨i, by omega, rfl, hm, rfl, fun j hj hmj => ?_, fun j hj hmj => ?_⟩
        · rcases Nat.lt_or_ge j i with h' | h'
          · rw [e3 j h'] at hmj; cases hmj
          · obtain rfl : j = i := by omega
            exact Int.le_refl _
        · rw [e3 j hj] at hmj; cases hmj
      · by_cases hc : G (s ||| 2 ^ i) (l.getD i default).pl + costF h p (l.getD i default).pl < (fRow h l G s p i).1
        · rw [if_pos (.inr hc)]
          have hc : cndG h l G s p i < (fRow h l G s p i).1 := hc
          rw [h4] at hc
          refine .inr ⟨i, by omega, rfl, hm, rfl, fun j hj hmj => ?_, fun j hj hmj => ?_⟩
          · rcases Nat.lt_or_ge j i with h' | h'
            · have := h5 j h' hmj; omega
            · obtain rfl : j = i := by omega
              exact Int.le_refl _
          · have := h5 j hj hmj; omega
        · rw [if_neg (by rintro (h' | h'); · omega
                         · exact hc h')]
          have hc : ¬ cndG h l G s p i < (fRow h l G s p i).1 := hc
          rw [h4] at hc
          refine .inr ⟨a, by omega, h2, h3, h4, fun j hj hmj => ?_, h6⟩
          rcases Nat.lt_or_ge j i with h' | h'
          · exact h5 j h' hmj
          · obtain rfl : j = i := by omega
            omega
    · rw [if_neg hm]
      rcases ih with ⟨e1, e2, e3⟩ | ⟨a, h1, h2, h3, h4, h5, h6⟩
      · refine .inl ⟨e1, e2, fun j hj => ?_⟩
        rcases Nat.lt_or_ge j i with h' | h'
        · exact e3 j h'
        · obtain rfl : j = i := by omega
          simpa using hm
      · refine .inr ⟨a, by omega, h2, h3, h4, fun j hj hmj => ?_, h6⟩
        rcases Nat.lt_or_ge j i with h' | h'
        · exact h5 j h' hmj
        · obtain rfl : j = i := by omega
          exact absurd hmj hm
theorem few_spec {h : Hal} {l : List Wk} {s : Nat} {p : Int} : ((Few h l s p).2 = -1 ∧ (Few h l s p).1 = 0 ∧ ∀ j, j < l.length → mayF l s j = false) ∨ ∃ a : Nat, a < l.length ∧ (Few h l s p).2 = (a : Int) ∧ mayF l s a = true ∧ (Few h l s p).1 = cnd h l s p a ∧ (∀ j, j < l.length → mayF l s j = true → cnd h l s p a ≤ cnd h l s p j) ∧ ∀ j, j < a → mayF l s j = true → cnd h l s p a < cnd h l s p j := by
  have := fRow_spec (h := h) (l := l) (G := fun s p => (Few h l s p).1) (s := s) (p := p) l.length
  rw [← Few_eq] at this
  exact this
def pathG (h : Hal) (l : List Wk) : Nat → Nat → Int → List Int
  | 0, _, _ => []
  | n + 1, s, p => if (Few h l s p).2 < 0 then [] else (Few h l s p).2 :: pathG h l n (s ||| 2 ^ (Few h l s p).2.toNat) (plF l (Few h l s p).2)
/-- The best order of what is not done. -/
def pathF (h : Hal) (l : List Wk) (s : Nat) (p : Int) : List Int := pathG h l (leftN s l.length) s p
theorem path_nil {h : Hal} {l : List Wk} {s : Nat} {p : Int} (h0 : (Few h l s p).2 < 0) : pathF h l s p = [] := by
  unfold pathF
  cases leftN s l.length with
  | zero => rfl
  | succ n => simp only [pathG]; rw [if_pos h0]
theorem path_cons {h : Hal} {l : List Wk} {s : Nat} {p : Int} (h0 : ¬ (Few h l s p).2 < 0) : pathF h l s p = (Few h l s p).2 :: pathF h l (s ||| 2 ^ (Few h l s p).2.toNat) (plF l (Few h l s p).2) := by
  rcases few_spec (h := h) (l := l) (s := s) (p := p) with ⟨e1, _⟩ | ⟨a, h1, h2, h3, _⟩
  · omega
  · have hl := leftN_step h1 h3
    have e : (Few h l s p).2.toNat = a := by omega
    unfold pathF
    rw [e, ← hl]
    simp only [pathG]
    rw [if_neg h0, e]
/-- What is next may be done. -/
theorem next_may {h : Hal} {l : List Wk} {s : Nat} {p : Int} (h0 : ¬ (Few h l s p).2 < 0) : (Few h l s p).2.toNat < l.length ∧ mayF l s (Few h l s p).2.toNat = true := by
  rcases few_spec (h := h) (l := l) (s := s) (p := p) with ⟨e1, _⟩ | ⟨a, h1, h2, h3, _⟩
  · omega
  · have e : (Few h l s p).2.toNat = a := by omega
    rw [e]; exact ⟨h1, h3⟩

/-! ### Orders of what is left -/

def ordS (l : List Wk) (s : Nat) (o : List Int) : Option Nat := o.foldl (fun m a => m.bind fun s => oStep l s a) (some s)
theorem ordS_cons' {l : List Wk} {s : Nat} {a : Int} {o : List Int} (h0 : 0 ≤ a) (h1 : a < (l.length : Int)) (h2 : mayF l s a.toNat = true) : ordS l s (a :: o) = ordS l (s ||| 2 ^ a.toNat) o := by
  show o.foldl (fun m a => m.bind fun s => oStep l s a) (oStep l s a) = _
  rw [oStep_yes h0 h1 h2]; rfl
def cstF (h : Hal) (l : List Wk) : Int → List Int → Int
  | _, [] => 0
  | p, a :: o => costF h p (plF l a) + cstF h l (plF l a) o
/-! ### Nothing is stuck -/

theorem leftN_zero {s : Nat} : ∀ n, (∀ j, j < n → s.testBit j = true) → leftN s n = 0
  | 0, _ => rfl
  | n + 1, h => by simp only [leftN]; rw [leftN_zero n fun j hj => h j (by omega), h n (by omega)]; rfl
theorem stuck_sub {l : List Wk} (hsm : ∀ x ∈ l, smallL x.af.v) {s : Nat} (hn : ∀ j, j < l.length → mayF l s j = false) : ∀ r j, (doneF l r).testBit j = true → s.testBit j = true := by
  have part : ∀ d, (∀ j, d.testBit j = true → s.testBit j = true) → ∀ i, i ≤ l.length → ∀ j, (partF l d i).testBit j = true → s.testBit j = true := by
    intro d hd i
    induction i with
    | zero => intro _ j hj; exact hd j hj
    | succ i ih =>
      intro hi j hj
      have hsi := hsm _ (getD_mem (by omega : i < l.length))
      have hj : (stepF l (partF l d i) i).testBit j = true := hj
      rw [step_bit hsi] at hj
      by_cases hji : j = i
      · subst hji
        rw [if_pos rfl, Bool.or_eq_true] at hj
        rcases hj with hj | hj
        · exact ih (by omega) j hj
        · have hm := hn j (by omega)
          rw [may_iff hsi] at hm
          have ha : ((l.getD j default).af.v.all fun a => s.testBit a.toNat) = true := by
            rw [List.all_eq_true] at hj ⊢
            intro a ha
            exact ih (by omega) _ (hj a ha)
          rw [ha, Bool.and_true, Bool.not_eq_false'] at hm
          exact hm
      · rw [if_neg hji] at hj
        exact ih (by omega) j hj
  intro r
  induction r with
  | zero => intro j hj; simp [doneF] at hj
  | succ r ih => intro j hj; exact part _ ih l.length (Nat.le_refl _) j hj
theorem stuck_all {l : List Wk} (hsm : ∀ x ∈ l, smallL x.af.v) (hd : doneF l l.length = 2 ^ l.length - 1) {s : Nat} (hn : ∀ j, j < l.length → mayF l s j = false) : ∀ j, j < l.length → s.testBit j = true := fun j hj =>
  stuck_sub hsm hn l.length j ((full_iff (doneF_lt l.length)).1 hd j hj)
theorem path_valid {h : Hal} {l : List Wk} (hsm : ∀ x ∈ l, smallL x.af.v) (hd : doneF l l.length = 2 ^ l.length - 1) : ∀ (n s : Nat) (p : Int), leftN s l.length = n → ∃ t, ordS l s (pathF h l s p) = some t ∧ (∀ j, j < l.length → t.testBit j = true) ∧ cstF h l p (pathF h l s p) = (Few h l s p).1 ∧ (pathF h l s p).length = n := by
  intro n
  induction n with
  | zero =>
    intro s p hn
    rcases few_spec (h := h) (l := l) (s := s) (p := p) with ⟨e1, e2, e3⟩ | ⟨b, h1, h2, h3, h4, h5, h6⟩
    · rw [path_nil (by omega)]
      exact ⟨s, rfl, stuck_all hsm hd e3, by rw [e2]; rfl, rfl⟩
    · have := leftN_step h1 h3; omega
  | succ n ih =>
    intro s p hn
    rcases few_spec (h := h) (l := l) (s := s) (p := p) with ⟨e1, e2, e3⟩ | ⟨b, h1, h2, h3, h4, h5, h6⟩
    · have := leftN_zero l.length (stuck_all hsm hd e3); omega
    · have hl := leftN_step h1 h3
      obtain ⟨t, t1, t2, t3, t4⟩ := ih (s ||| 2 ^ b) (plF l b) (by omega)
      rw [path_cons (by omega), h2]
      simp only [Int.toNat_natCast]
      refine ⟨t, ?_, t2, ?_, by simp [t4]⟩
      · rw [ordS_cons' (by omega) (by omega) (by simpa using h3)]
        simpa using t1
      · simp only [cstF]
        rw [t3, h4]
        show _ = (Few h l (s ||| 2 ^ b) (l.getD b default).pl).1 + costF h p (l.getD b default).pl
        have e : plF l (b : Int) = (l.getD b default).pl := rfl
        rw [e]; omega
/-! ### What is done before -/

def dStep (l : List Wk) (s : Nat) (a : Int) : Option Nat := if a < 0 ∨ (l.length : Int) ≤ a ∨ s.testBit a.toNat = true then none else some (s ||| 2 ^ a.toNat)
def dGo (l : List Wk) (o : List Int) : Option Nat := o.foldl (fun m a => m.bind fun s => dStep l s a) (some 0)
theorem dGo_nones {l : List Wk} : ∀ (o : List Int), o.foldl (fun m a => m.bind fun s => dStep l s a) none = none
  | [] => rfl
  | _ :: o => dGo_nones o
theorem dGo_succ {l : List Wk} {o : List Int} {i : Nat} (hi : i < o.length) : dGo l (o.take (i + 1)) = (dGo l (o.take i)).bind fun s => dStep l s (o.getD i default) := by
  unfold dGo; rw [foldl_take_succ hi]
theorem dGo_no {l : List Wk} {o : List Int} {i : Nat} (h : dGo l (o.take i) = none) : dGo l o = none := by
  have e : o = o.take i ++ o.drop i := (List.take_append_drop i o).symm
  rw [e]
  unfold dGo at h ⊢
  rw [List.foldl_append, h]
  exact dGo_nones _
theorem dStep_no {l : List Wk} {s : Nat} {a : Int} (h : a < 0 ∨ (l.length : Int) ≤ a ∨ s.testBit a.toNat = true) : dStep l s a = none := if_pos h
theorem dStep_yes {l : List Wk} {s : Nat} {a : Int} (h0 : 0 ≤ a) (h1 : a < (l.length : Int)) (h2 : s.testBit a.toNat = false) : dStep l s a = some (s ||| 2 ^ a.toNat) := by
  unfold dStep
  rw [if_neg]
  rintro (h | h | h)
  · omega
  · omega
  · rw [h2] at h; cases h
theorem dGo_at {l : List Wk} {o : List Int} {i s : Nat} (hi : i < o.length) (hg : dGo l (o.take i) = some s) (h : o.getD i default < 0 ∨ (l.length : Int) ≤ o.getD i default ∨ s.testBit (o.getD i default).toNat = true) : dGo l o = none := by
  have : dGo l (o.take (i + 1)) = none := by rw [dGo_succ hi, hg]; exact dStep_no h
  exact dGo_no this
theorem dGo_yes {l : List Wk} {o : List Int} {i s : Nat} (hi : i < o.length) (hg : dGo l (o.take i) = some s) (h0 : 0 ≤ o.getD i default) (h1 : o.getD i default < (l.length : Int)) (h2 : s.testBit (o.getD i default).toNat = false) : dGo l (o.take (i + 1)) = some (s ||| 2 ^ (o.getD i default).toNat) := by
  rw [dGo_succ hi, hg]; exact dStep_yes h0 h1 h2
theorem dGo_rng {l : List Wk} {o : List Int} {s : Nat} (h : dGo l o = some s) : ∀ i, i < o.length → 0 ≤ o.getD i default ∧ o.getD i default < (l.length : Int) := by
  intro i hi
  cases hg : dGo l (o.take i) with
  | none => rw [dGo_no hg] at h; cases h
  | some t =>
    by_cases hr : 0 ≤ o.getD i default ∧ o.getD i default < (l.length : Int)
    · exact hr
    · rw [dGo_at hi hg (by omega)] at h; cases h
def needB (l : List Wk) (s : Nat) (o : List Int) : Bool := o.all fun a => decide (s &&& maskF (l.getD a.toNat default).af.v = maskF (l.getD a.toNat default).af.v)
def befF (h : Hal) (l : List Wk) (place : Int) (o : List Int) : Option Nat := if place < 0 ∨ (h.length : Int) ≤ place then none else dGo l o
/-- What Rest returns. -/
def RestF (h : Hal) (l : List Wk) (place : Int) (o : List Int) : List Int × Int × Int :=
  if chkF h l ≠ 0 then ([], 0, chkF h l) else match befF h l place o with
    | none => ([], 0, 2)
    | some s => if needB l s o = true then (pathF h l s place, (Few h l s place).1, 0) else ([], 0, 4)
end Go.Proofs.Yteioilioobichaa

/- Tuning, walked: Rest and Plan of the program. -/
/- Tuning, walked: Rest and Plan of the program. -/
set_option linter.all false
namespace Go.Proofs.Yteioilioobichaa
open Go Go.Vx
set_option maxRecDepth 100000
set_option maxHeartbeats 4000000

def v18 : VF := { ntmps := 132, res := [.tmp 8, .tmp 9, .tmp 10], body :=
 (.seq (.region [u1 4 .box [.tm 0],
 u1 8 .mov [.cn .nil],
 u1 9 .mov [.cn (.int .i64 0)],
 u1 10 .mov [.cn (.int .i64 0)]])
 (.seq (.seq (.region [u1 24 (.load true 1) [.tm 4],
 u1 25 .mov [.tm 1],
 u1 26 (.call 13) [.tm 24, .tm 25],
 u1 11 .mov [.tm 26]])
 (.seq (.region [u1 27 .mov [.tm 11],
 u1 28 (.cmp .neq) [.tm 27, .cn (.int .i64 0)]])
 (.cond (.tm 28) (.seq (.region [u1 29 .mov [.tm 11],
 u1 8 .mov [.cn .nil],
 u1 9 .mov [.cn (.int .i64 0)],
 u1 10 .mov [.tm 29]])
 .ret)
  .skip)))
 (.seq (.region [u1 30 .mov [.tm 2],
 u1 31 (.cmp .geq) [.tm 30, .cn (.int .i64 0)],
 u1 32 .mov [.tm 31],
 u2 33 32 true .mov [.tm 2],
 u2 34 32 true (.fieldAddr 0) [.tm 4],
 u2 35 32 true (.load false 1) [.tm 34],
 u2 36 32 true .len [.tm 35],
 u2 37 32 true (.cmp .lss) [.tm 33, .tm 36],
 u1 38 .and [.tm 32, .tm 37],
 u1 12 .mov [.tm 38]])
 (.seq (.region [u1 13 .mov [.cn (.int .u64 0)]])
 (.seq (.seq (.region [u1 39 .mov [.tm 3],
 u1 40 .len [.tm 39],
 u1 41 .mov [.cn (.int .i64 0)]])
 (.block 0 (.loop (.seq (.region [u1 42 (.cmp .lss) [.tm 41, .tm 40]])
 (.seq (.cond (.tm 42) .skip
  (.exit 0))
 (.seq (.block 1 (.seq (.region [u1 43 (.idxAddr 1) [.tm 39, .tm 41],
 u1 44 (.load false 1) [.tm 43],
 u1 15 .mov [.tm 44]])
 (.seq (.region [u1 45 .mov [.tm 12],
 u1 46 .mov [.tm 45],
 u2 47 46 true .mov [.tm 15],
 u2 48 46 true (.cmp .geq) [.tm 47, .cn (.int .i64 0)],
 u1 49 .and [.tm 46, .tm 48],
 u1 50 .mov [.tm 49],
 u2 51 50 true .mov [.tm 15],
 u2 52 50 true .mov [.tm 1],
 u2 53 50 true .len [.tm 52],
 u2 54 50 true (.cmp .lss) [.tm 51, .tm 53],
 u1 55 .and [.tm 50, .tm 54],
 u1 56 .mov [.tm 55],
 u2 57 56 true .mov [.tm 13],
 u2 58 56 true .mov [.tm 15],
 u2 59 56 true (.buildSlice 1 1 [(.int .i64 0)] [(0, 1)]) [.tm 58],
 u2 60 56 true (.call 29) [.tm 59],
 u2 61 56 true (.bit .and) [.tm 57, .tm 60],
 u2 62 56 true (.cmp .eql) [.tm 61, .cn (.int .u64 0)],
 u1 63 .and [.tm 56, .tm 62],
 u1 12 .mov [.tm 63]])
 (.seq (.seq (.region [u1 64 .mov [.tm 12],
 u1 65 .not [.tm 64]])
 (.cond (.tm 65) (.exit 0)
  .skip))
 (.region [u1 66 .mov [.tm 13],
 u1 67 .mov [.tm 15],
 u1 68 (.buildSlice 1 1 [(.int .i64 0)] [(0, 1)]) [.tm 67],
 u1 69 (.call 29) [.tm 68],
 u1 70 (.bit .or) [.tm 66, .tm 69],
 u1 13 .mov [.tm 70]])))))
 (.region [u1 71 (.ari .add) [.tm 41, .cn (.int .i64 1)],
 u1 41 .mov [.tm 71]])))))))
 (.seq (.seq (.region [u1 72 .mov [.tm 12],
 u1 73 .not [.tm 72]])
 (.cond (.tm 73) (.seq (.region [u1 8 .mov [.cn .nil],
 u1 9 .mov [.cn (.int .i64 0)],
 u1 10 .mov [.cn (.int .i64 2)]])
 .ret)
  .skip))
 (.seq (.seq (.region [u1 74 .mov [.tm 3],
 u1 75 .len [.tm 74],
 u1 76 .mov [.cn (.int .i64 0)]])
 (.block 2 (.loop (.seq (.region [u1 77 (.cmp .lss) [.tm 76, .tm 75]])
 (.seq (.cond (.tm 77) .skip
  (.exit 2))
 (.seq (.block 3 (.seq (.region [u1 78 (.idxAddr 1) [.tm 74, .tm 76],
 u1 79 (.load false 1) [.tm 78],
 u1 17 .mov [.tm 79]])
 (.seq (.region [u1 80 .mov [.tm 1],
 u1 81 .mov [.tm 17],
 u1 82 (.idxAddr 4) [.tm 80, .tm 81],
 u1 83 (.fieldAddr 2) [.tm 82],
 u1 84 (.load false 1) [.tm 83],
 u1 85 (.call 29) [.tm 84],
 u1 18 .mov [.tm 85]])
 (.seq (.region [u1 86 .mov [.tm 13],
 u1 87 .mov [.tm 18],
 u1 88 (.bit .and) [.tm 86, .tm 87],
 u1 89 .mov [.tm 18],
 u1 90 (.cmp .neq) [.tm 88, .tm 89]])
 (.cond (.tm 90) (.seq (.region [u1 8 .mov [.cn .nil],
 u1 9 .mov [.cn (.int .i64 0)],
 u1 10 .mov [.cn (.int .i64 4)]])
 .ret)
  .skip)))))
 (.region [u1 91 (.ari .add) [.tm 76, .cn (.int .i64 1)],
 u1 76 .mov [.tm 91]])))))))
 (.seq (.region [u1 92 (.load true 1) [.tm 4],
 u1 93 .mov [.tm 1],
 u1 94 (.mkMap [.u64, .i64]) [],
 u1 95 (.build [.nil, .nil, (.val (.map none))] [(0, 1), (1, 1), (2, 1)]) [.tm 92, .tm 93, .tm 94],
 u1 96 .box [.tm 95],
 u1 19 .mov [.tm 96]])
 (.seq (.region [u1 97 .mov [.tm 13],
 u1 98 .mov [.tm 2],
 u1 99 (.build [(.int .u64 0), (.int .i64 0)] [(0, 1), (1, 1)]) [.tm 97, .tm 98],
 u1 20 (.alloc [(.int .u64 0), (.int .i64 0)]) [],
 u0 (.store 2) [.tm 20, .tm 99]])
 (.seq (.region [u1 101 .mov [.tm 19],
 u1 102 (.load true 2) [.tm 20],
 u1 103 (.call 33) [.tm 101, .tm 102],
 u1 100 .mov [.tm 103],
 u1 104 (.ext 0) [.tm 100],
 u1 105 (.ext 1) [.tm 100],
 u1 21 .mov [.tm 104],
 u1 22 .mov [.tm 105]])
 (.seq (.region [u1 23 .mov [.cn .nil]])
 (.seq (.block 4 (.loop (.seq (.seq (.region [u1 106 .mov [.tm 22],
 u1 107 (.cmp .geq) [.tm 106, .cn (.int .i64 0)]])
 (.cond (.tm 107) .skip
  (.exit 4)))
 (.block 5 (.seq (.region [u1 108 .mov [.tm 23],
 u1 109 .mov [.tm 22],
 u1 110 (.buildSlice 1 1 [(.int .i64 0)] [(0, 1)]) [.tm 109],
 u1 111 (.append 1 8 [(.int .i64 0)]) [.tm 108, .tm 110],
 u1 23 .mov [.tm 111]])
 (.seq (.draw [] [w1 112 (.fieldAddr 0) [.tm 20],
 w1 113 (.load false 1) [.tm 112],
 w1 114 .mov [.tm 22],
 w1 118 .mov [.tm 1],
 w1 119 .mov [.tm 22],
 w1 120 (.idxAddr 4) [.tm 118, .tm 119],
 w1 121 (.fieldAddr 1) [.tm 120],
 w1 122 (.load false 1) [.tm 121],
 w1 115 (.buildSlice 1 1 [(.int .i64 0)] [(0, 1)]) [.tm 114],
 w1 116 (.call 29) [.tm 115],
 w1 117 (.bit .or) [.tm 113, .tm 116],
 w1 123 (.build [(.int .u64 0), (.int .i64 0)] [(0, 1), (1, 1)]) [.tm 117, .tm 122],
 w0 (.store 2) [.tm 20, .tm 123]])
 (.region [u1 125 .mov [.tm 19],
 u1 126 (.load true 2) [.tm 20],
 u1 127 (.call 33) [.tm 125, .tm 126],
 u1 124 .mov [.tm 127],
 u1 128 (.ext 0) [.tm 124],
 u1 129 (.ext 1) [.tm 124],
 u1 22 .mov [.tm 129]])))))))
 (.seq (.region [u1 130 .mov [.tm 23],
 u1 131 .mov [.tm 21],
 u1 8 .mov [.tm 130],
 u1 9 .mov [.tm 131],
 u1 10 .mov [.cn (.int .i64 0)]])
 .ret))))))))))))) }
theorem v18_is : vfunc Try.prog Try.f18 = some v18 := by kernel_rfl
def v16 : VF := { ntmps := 16, res := [.tmp 6, .tmp 7, .tmp 8], body :=
 (.seq (.region [u1 3 .box [.tm 0],
 u1 6 .mov [.cn .nil],
 u1 7 .mov [.cn (.int .i64 0)],
 u1 8 .mov [.cn (.int .i64 0)]])
 (.seq (.region [u1 9 (.load true 1) [.tm 3],
 u1 10 .mov [.tm 1],
 u1 11 .mov [.tm 2],
 u1 12 (.call 18) [.tm 9, .tm 10, .tm 11, .cn .nil],
 u1 13 (.ext 0) [.tm 12],
 u1 14 (.ext 1) [.tm 12],
 u1 15 (.ext 2) [.tm 12],
 u1 6 .mov [.tm 13],
 u1 7 .mov [.tm 14],
 u1 8 .mov [.tm 15]])
 .ret)) }
theorem v16_is : vfunc Try.prog Try.f16 = some v16 := by kernel_rfl

def RestC : Ctr := { alias := false, of := fun l => match l with
  | [.agg [.vs _ _ n sz get], .vs _ _ n' sz' get', .int .i64 place, .vs _ _ n'' sz'' get''] => .ex Hal fun h => .ex (List Wk) fun l => .ex (List Int) fun o => .pre (lsP 1 encR n sz get h ∧ lsP 4 encK n' sz' get' l ∧ lsP 1 enc1 n'' sz'' get'' o ∧ ((h.length ≤ 1000000000000 ∧ l.length ≤ 1000000000000) ∧ (∀ x ∈ h, x.v.length ≤ 1000000000000) ∧ okW l) ∧ o.length ≤ 1000000000000) (.all Bool fun z => .fin (.tup [.vs true z (RestF h l place o).1.length 1 (fun k => enc1 ((RestF h l place o).1.getD k default)), .int .i64 (RestF h l place o).2.1, .int .i64 (RestF h l place o).2.2]) [])
  | [.agg [.vs _ _ n sz get], .vs _ _ n' sz' get', .int .i64 place, .nil] => .ex Hal fun h => .ex (List Wk) fun l => .pre (lsP 1 encR n sz get h ∧ lsP 4 encK n' sz' get' l ∧ ((h.length ≤ 1000000000000 ∧ l.length ≤ 1000000000000) ∧ (∀ x ∈ h, x.v.length ≤ 1000000000000) ∧ okW l)) (.all Bool fun z => .fin (.tup [.vs true z (RestF h l place []).1.length 1 (fun k => enc1 ((RestF h l place []).1.getD k default)), .int .i64 (RestF h l place []).2.1, .int .i64 (RestF h l place []).2.2]) [])
  | _ => noC }
theorem encR_view {hp : List HO} {j : List SV → List SV} {x : Rw} : leXL (viewL false hp j (encR x)) (encR x) := by simp [encR, enc1, viewL, view, leXL, leX, andT]
def ofD : Ctr := { alias := false, of := fun l => match l with
  | [.vs _ _ n sz get] => .ex (List Int) fun l => .pre (lsP 1 enc1 n sz get l ∧ smallL l ∧ l.length ≤ 1000000000000) (.fin (.int .u64 (maskF l)) [])
  | _ => .pre False (.fin (.int .u64 0) []) }
theorem ofd_ok : ofD.ok Try.prog 29 := fun args vs z k hsat hx hc => of_ok args vs z k hsat hx (by
  simp only [ofD] at hc
  simp only [ofC]
  split at hc
  · exact hc
  · exact hc.1.elim)
def TK0 : Env := { ct := fun n => match n with | 13 => some chkC | 29 => some ofD | 33 => some fewC | _ => none, fn := fun _ => none, meth := fun _ _ => none }
theorem TK0_ct13 : TK0.ct 13 = some chkC := rfl
theorem TK0_ct29 : TK0.ct 29 = some ofD := rfl
theorem TK0_ct33 : TK0.ct 33 = some fewC := rfl
theorem TK0_ok : EnvOk Try.prog TK0 := by
  refine ⟨fun f c h => ?_, fun f vf h => ?_, (fun _ _ _ h => by cases h), by kernel_rfl⟩
  · simp only [TK0] at h
    split at h
    · cases h; exact ⟨chk_ok, Try.f13, Try.func13, by kernel_rfl, by kernel_rfl⟩
    · cases h; exact ⟨ofd_ok, Try.f29, Try.func29, by kernel_rfl, by kernel_rfl⟩
    · cases h; exact ⟨few_ok, Try.f33, Try.func33, by kernel_rfl, by kernel_rfl⟩
    · cases h
  · cases h

theorem Rest_run {k : SV → List HO → Prop} {z z' z'' : Bool} {place : Int} {h0 : Hal} {l : List Wk} {o : List Int} (hl : h0.length ≤ 1000000000000 ∧ l.length ≤ 1000000000000) (hh : ∀ x ∈ h0, x.v.length ≤ 1000000000000) (hw : okW l) (ho : o.length ≤ 1000000000000)
    (h : ∀ z : Bool, k (.tup [.vs true z (RestF h0 l place o).1.length 1 (fun k => enc1 ((RestF h0 l place o).1.getD k default)), .int .i64 (RestF h0 l place o).2.1, .int .i64 (RestF h0 l place o).2.2]) []) :
    run TK0 (answers RestC.alias k) v18.res 300 [.code v18.body] { fr := padL v18.ntmps [.agg [.vs false z h0.length 1 (fun k => encR (h0.getD k default))], .vs false z' l.length 4 (fun k => encK (l.getD k default)), .int .i64 place, .vs false z'' o.length 1 (fun k => enc1 (o.getD k default))], saved := [], hp := [] } := by
  dsimp only [v18, TK0_ct13, TK0_ct29, chkC, ofD, encK, go_sem, Option.bind, Option.map, List.append_nil, Nat.beq, List.cons_append, List.nil_append, List.append_eq, List.map_cons, List.map_nil, ite_self, reduceIte]
  simp only [true_and, and_true, imp_self, implies_true, decide_eq_true_eq, decide_eq_false_iff_not, Nat.reduceAdd, Nat.reduceLeDiff, Bool.not_not, reduceCtorEq, false_imp_iff, Bool.not_eq_true', Bool.not_eq_false', Bool.false_eq_true, and_self, forall_const, ne_eq, not_false_eq_true, Nat.reduceEqDiff]
  unfold RestF at h
  refine ⟨h0, l, ⟨⟨rfl, rfl, fun k _ => leXL_self _⟩, ⟨rfl, rfl, fun k _ => leXL_self _⟩, hl, hh, hw⟩, fun hc => ?_, fun hc => ?_⟩
  · rw [if_pos hc] at h
    exact ans_le (h true) (by simp [expo, view, viewL, leL, le]) (fun _ => by simp [freshS, freshL])
  rw [if_neg (by omega)] at h
  obtain ⟨c1, c2, c3, c4, c5⟩ := chk_facts hc
  have haft := aft_of_good c3
  have hsm := aft_small haft c2
  obtain ⟨pg, hpg⟩ : ∃ pg, pg = (decide (0 ≤ place) && decide (place < (h0.length : Int))) := ⟨_, rfl⟩
  rw [← hpg]
  have hpf : pg = false → befF h0 l place o = none := fun hp => by
    unfold befF; rw [if_pos]
    rw [hp] at hpg
    have := hpg.symm
    simp only [Bool.and_eq_false_iff, decide_eq_false_iff_not] at this
    omega
  have hpt : pg = true → (0 ≤ place ∧ place < (h0.length : Int)) ∧ befF h0 l place o = dGo l o := fun hp => by
    rw [hp] at hpg
    have := hpg.symm
    simp only [Bool.and_eq_true, decide_eq_true_eq] at this
    refine ⟨this, ?_⟩
    unfold befF; rw [if_neg (by omega)]
  clear hpg
  refine Loop.keep [1, 0, 0, 0, 34, 0] (Nat × Nat) (fun p => [(12, .bool pg), (13, .int .u64 p.2), (41, .int .i64 p.1)]) (fun _ => []) [] (fun p => p.1 ≤ o.length ∧ dGo l (o.take p.1) = some p.2 ∧ p.2 < 2 ^ l.length ∧ (pg = true ∨ p.1 = 0)) (fun p => o.length - p.1) ?_ ?_
  · refine ⟨(0, 0), ⟨Nat.zero_le _, rfl, Nat.pow_pos (by omega), .inr rfl⟩, ?_⟩
    dsimp only [go_sem, Option.bind, Option.map, List.append_nil, Nat.beq, List.cons_append, List.nil_append, List.append_eq, List.map_cons, List.map_nil, ite_self, reduceIte]
    simp only [leS_mk, leL_cons, leL_nil, le_junk, le_int, le_bool, le_nil, leLL_nil, leLL_cons, leH_cons, leH_nil, leH1_box, leH1_own, leH1_gone, le_vs, le_agg, le_tup, le_ptr, le_own, le_xp, le_fn, le_opt, le_val, le_elem, le_nil_own, le_nil_vs, leH_ghost, leL_chunk, leXL_id, bnd_int, bnd_bool, bnd_val, bnd_nil, bnd_junk, bnd_vs, bnd_xp, bnd_agg, bnd_tup, bnd_ptr, bnd_own, bnd_elem, bnd_fn, bnd_iface, bnd_opt, bnd_row, bnd_rcell, bnd_imap, bnd_smp, le_row, le_rcell, le_imap, le_smp, leH1_smap, bndL_nil, bndL_cons, lenH_cons, lenH_nil, imp_self, implies_true, true_and, and_true]
    simp
  · rintro ⟨i, s⟩ ⟨hi, hgo, hs, hp0⟩
    simp only at hi hgo hs hp0
    have hS := lt64 c2 hs
    dsimp only [TK0_ct29, ofD, encK, enc1, go_sem, Option.bind, Option.map, List.append_nil, Nat.beq, List.cons_append, List.nil_append, List.append_eq, List.map_cons, List.map_nil, ite_self, reduceIte]
    simp only [true_and, and_true, imp_self, implies_true, decide_eq_true_eq, decide_eq_false_iff_not, Nat.reduceAdd, Nat.reduceLeDiff, Bool.not_not, reduceCtorEq, false_imp_iff, Bool.not_eq_true', Bool.not_eq_false', Bool.false_eq_true, and_self, forall_const, ne_eq, not_false_eq_true, Nat.reduceEqDiff, Int.toNat_natCast]
    refine ⟨fun hlt => ?_, fun hge => ?_⟩
    · have hi' : i < o.length := by omega
      obtain ⟨a, ha⟩ : ∃ a, a = o.getD i default := ⟨_, rfl⟩
      simp only [← ha]
      have hno : ∀ b : Bool, (pg && decide (0 ≤ a) && decide (a < (l.length : Int)) && b) = false → (b = false → pg = true → 0 ≤ a → a < (l.length : Int) → s.testBit a.toNat = true) → befF h0 l place o = none := fun b hb hbb => by
        by_cases hp : pg = true
        · rw [(hpt hp).2]
          refine dGo_at hi' hgo ?_
          rw [← ha]
          rw [hp, Bool.true_and] at hb
          by_cases h1 : a < 0
          · exact .inl h1
          · by_cases h2 : (l.length : Int) ≤ a
            · exact .inr (.inl h2)
            · rw [decide_eq_true (by omega : 0 ≤ a), decide_eq_true (by omega : a < (l.length : Int))] at hb
              exact .inr (.inr (hbb (by simpa using hb) hp (by omega) (by omega)))
        · exact hpf (by simpa using hp)
      refine ⟨⟨by omega, hlt⟩, fun hc => ?_, fun hc => ?_⟩
      · have hc' := hc
        simp only [Bool.and_eq_true, decide_eq_true_eq] at hc'
        obtain ⟨⟨hpg, a0⟩, a1⟩ := hc'
        have hbit : decide (bitI Bit.and IntKind.u64 (s : Int) ((maskF [a] : Nat) : Int) = 0) = !s.testBit a.toNat := by
          rw [u64_and hS (maskF_lt (small1 c2 a0 a1)), mask1]
          cases hb : s.testBit a.toNat with
          | false => exact decide_eq_true (by have := and_pow_zero.2 hb; omega)
          | true => exact decide_eq_false (fun h => by rw [and_pow_zero.1 (by omega)] at hb; cases hb)
        refine ⟨Nat.one_pos, [a], fun _ => ⟨⟨rfl, rfl, fun k hk => ?_⟩, small1 c2 a0 a1, by simp⟩, fun hb => ⟨fun _ => ?_, fun hb2 => ?_⟩, fun hb => ⟨Nat.one_pos, [a], ⟨⟨rfl, rfl, fun k hk => ?_⟩, small1 c2 a0 a1, by simp⟩, (i + 1, s ||| 2 ^ a.toNat), ⟨by omega, ?_, or_lt hs a0 a1, .inl hpg⟩, by simp only; omega, ?_⟩⟩
        · obtain rfl : k = 0 := by omega
          exact leXL_self _
        · rw [hno _ hb fun hb3 _ _ _ => by rw [hbit] at hb3; simpa using hb3] at h
          exact ans_le (h true) (by simp [expo, view, viewL, leL, le]) (fun _ => by simp [freshS, freshL])
        · rw [hb] at hb2; cases hb2
        · obtain rfl : k = 0 := by omega
          exact leXL_self _
        · rw [hbit, Bool.and_eq_true] at hb
          rw [ha]
          exact dGo_yes hi' hgo (ha ▸ a0) (ha ▸ a1) (by rw [← ha]; simpa using hb.2)
        · simp only [hb]
          rw [mask1, u64_or hS (Nat.pow_lt_pow_right (by omega) (by omega)), hpg]
          simp only [leS_mk, leL_cons, leL_nil, le_junk, le_int, le_bool, le_nil, leLL_nil, leLL_cons, leH_cons, leH_nil, leH1_box, leH1_own, leH1_gone, le_vs, le_agg, le_tup, le_ptr, le_own, le_xp, le_fn, le_opt, le_val, le_elem, le_nil_own, le_nil_vs, leH_ghost, leL_chunk, leXL_id, bnd_int, bnd_bool, bnd_val, bnd_nil, bnd_junk, bnd_vs, bnd_xp, bnd_agg, bnd_tup, bnd_ptr, bnd_own, bnd_elem, bnd_fn, bnd_iface, bnd_opt, bnd_row, bnd_rcell, bnd_imap, bnd_smp, le_row, le_rcell, le_imap, le_smp, leH1_smap, bndL_nil, bndL_cons, lenH_cons, lenH_nil, imp_self, implies_true, true_and, and_true]
          exact ⟨by omega, w_succ hi' (by omega)⟩
      · have hn := hno false (by rw [Bool.and_false]) (fun _ hp h1 h2 => by
          rw [hp, decide_eq_true h1, decide_eq_true h2] at hc; cases hc)
        rw [hn] at h
        simp only [hc]
        exact ⟨fun h => (by cases h), fun _ => ⟨fun _ => ans_le (h true) (by simp [expo, view, viewL, leL, le]) (fun _ => by simp [freshS, freshL]), fun h => (by cases h)⟩, fun h => (by cases h)⟩
    · obtain rfl : i = o.length := by omega
      rw [List.take_length] at hgo
      refine ⟨fun hp => ?_, fun hp => ?_⟩
      · rw [hpf hp] at h
        exact ans_le (h true) (by simp [expo, view, viewL, leL, le]) (fun _ => by simp [freshS, freshL])
      obtain ⟨⟨p0, p1⟩, hbf⟩ := hpt hp
      rw [hbf, hgo] at h
      have hor := dGo_rng hgo
      refine Loop.keep [1, 0, 0, 0, 8, 60, 0] Nat (fun i => [(76, .int .i64 i)]) (fun _ => []) [] (fun i => i ≤ o.length ∧ ∀ j, j < i → s &&& maskF (l.getD (o.getD j default).toNat default).af.v = maskF (l.getD (o.getD j default).toNat default).af.v) (fun i => o.length - i) ?_ ?_
      · refine ⟨0, ⟨Nat.zero_le _, fun j hj => by omega⟩, ?_⟩
        dsimp only [go_sem, Option.bind, Option.map, List.append_nil, Nat.beq, List.cons_append, List.nil_append, List.append_eq, List.map_cons, List.map_nil, ite_self, reduceIte]
        simp only [leS_mk, leL_cons, leL_nil, le_junk, le_int, le_bool, le_nil, leLL_nil, leLL_cons, leH_cons, leH_nil, leH1_box, leH1_own, leH1_gone, le_vs, le_agg, le_tup, le_ptr, le_own, le_xp, le_fn, le_opt, le_val, le_elem, le_nil_own, le_nil_vs, leH_ghost, leL_chunk, leXL_id, bnd_int, bnd_bool, bnd_val, bnd_nil, bnd_junk, bnd_vs, bnd_xp, bnd_agg, bnd_tup, bnd_ptr, bnd_own, bnd_elem, bnd_fn, bnd_iface, bnd_opt, bnd_row, bnd_rcell, bnd_imap, bnd_smp, le_row, le_rcell, le_imap, le_smp, leH1_smap, bndL_nil, bndL_cons, lenH_cons, lenH_nil, imp_self, implies_true, true_and, and_true]
        simp
      · rintro i ⟨hi, hia⟩
        dsimp only [TK0_ct29, ofD, encK, enc1, go_sem, Option.bind, Option.map, List.append_nil, Nat.beq, List.cons_append, List.nil_append, List.append_eq, List.map_cons, List.map_nil, ite_self, reduceIte]
        simp only [true_and, and_true, imp_self, implies_true, decide_eq_true_eq, decide_eq_false_iff_not, Nat.reduceAdd, Nat.reduceLeDiff, Bool.not_not, reduceCtorEq, false_imp_iff, Bool.not_eq_true', Bool.not_eq_false', Bool.false_eq_true, and_self, forall_const, ne_eq, not_false_eq_true, Nat.reduceEqDiff, Int.toNat_natCast]
        refine ⟨fun hlt => ?_, fun hge2 => ?_⟩
        · have hi' : i < o.length := by omega
          obtain ⟨a0, a1⟩ := hor i hi'
          have hm := getD_mem (by omega : (o.getD i default).toNat < l.length)
          have hS := lt64 c2 hs
          refine ⟨⟨by omega, hlt⟩, ⟨a0, a1⟩, (l.getD (o.getD i default).toNat default).af.v, ⟨⟨rfl, rfl, fun k _ => leXL_self _⟩, hsm _ hm, (hw _ hm).1⟩, fun hb => ?_, fun hb => ?_⟩
          · have : needB l s o = false := by
              unfold needB
              rw [List.all_eq_false]
              refine ⟨_, getD_mem hi', ?_⟩
              rw [u64_and hS (maskF_lt (hsm _ hm))] at hb
              simp only [decide_eq_true_eq]
              intro he; exact hb (by rw [he])
            simp only [this] at h
            exact ans_le (h true) (by simp [expo, view, viewL, leL, le]) (fun _ => by simp [freshS, freshL])
          · refine ⟨i + 1, ⟨by omega, lt_succ_all hia ?_⟩, by omega, ?_⟩
            · rw [u64_and hS (maskF_lt (hsm _ hm))] at hb
              omega
            · simp only [leS_mk, leL_cons, leL_nil, le_junk, le_int, le_bool, le_nil, leLL_nil, leLL_cons, leH_cons, leH_nil, leH1_box, leH1_own, leH1_gone, le_vs, le_agg, le_tup, le_ptr, le_own, le_xp, le_fn, le_opt, le_val, le_elem, le_nil_own, le_nil_vs, leH_ghost, leL_chunk, leXL_id, bnd_int, bnd_bool, bnd_val, bnd_nil, bnd_junk, bnd_vs, bnd_xp, bnd_agg, bnd_tup, bnd_ptr, bnd_own, bnd_elem, bnd_fn, bnd_iface, bnd_opt, bnd_row, bnd_rcell, bnd_imap, bnd_smp, le_row, le_rcell, le_imap, le_smp, leH1_smap, bndL_nil, bndL_cons, lenH_cons, lenH_nil, imp_self, implies_true, true_and, and_true]
              exact ⟨by omega, w_succ hi' (by omega)⟩
        · obtain rfl : i = o.length := by omega
          have hneed : needB l s o = true := by
            unfold needB
            rw [List.all_eq_true]
            intro x hx
            obtain ⟨j, hj, rfl⟩ := mem_getD hx
            exact decide_eq_true (hia j hj)
          simp only [hneed, if_true] at h
          refine ⟨FewC h0 l, ?_⟩
          dsimp only [TK0_ct33, fewC, feC, go_sem, Option.bind, Option.map, List.append_nil, Nat.beq, List.cons_append, List.nil_append, List.append_eq, List.map_cons, List.map_nil, ite_self, reduceIte]
          simp only [true_and, and_true, imp_self, implies_true, decide_eq_true_eq, decide_eq_false_iff_not, Nat.reduceAdd, Nat.reduceLeDiff, Bool.not_not, reduceCtorEq, false_imp_iff, Bool.not_eq_true', Bool.not_eq_false', Bool.false_eq_true, and_self, forall_const, ne_eq, not_false_eq_true, Nat.reduceEqDiff]
          have hP0 : feP h0 l s place := ⟨⟨hs, p0, p1⟩, c3, c1, c2, hw⟩
          have hl0 := leftN_le (s := s) l.length
          refine ⟨h0, l, s, ⟨⟨rfl, rfl, fun k _ => ?_⟩, ⟨rfl, rfl, fun k _ => leXL_self _⟩, rfl, rfl, hP0, by omega⟩, by decide, by decide, ?_⟩
          · exact encR_view
          refine Loop.keep [1, 17, 0, 0] (List Int × Nat × Int) (fun x => [(22, .int .i64 (Few h0 l x.2.1 x.2.2).2), (23, .own 3 0 x.1.length 1)]) (fun x => [(2, .box [.int .u64 x.2.1, .int .i64 x.2.2]), (3, .own (decide (x.1.length = 0)) 1 x.1.length (fun k => enc1 (x.1.getD k default)))]) [.gone] (fun x => x.1 ++ pathF h0 l x.2.1 x.2.2 = pathF h0 l s place ∧ feP h0 l x.2.1 x.2.2) (fun x => leftN x.2.1 l.length) ?_ ?_
          · refine ⟨([], s, place), ⟨rfl, hP0⟩, ?_⟩
            dsimp only [List.length_nil, go_sem, Option.bind, Option.map, List.append_nil, Nat.beq, List.cons_append, List.nil_append, List.append_eq, List.map_cons, List.map_nil, ite_self, reduceIte]
            simp only [leH_ghost, leS_mk, leL_cons, leL_nil, le_junk, le_int, le_bool, le_nil, leLL_nil, leLL_cons, leH_cons, leH_nil, leH1_box, leH1_own, leH1_gone, le_vs, le_agg, le_tup, le_ptr, le_own, le_xp, le_fn, le_opt, le_val, le_elem, le_nil_own, le_nil_vs, leH_ghost, leL_chunk, leXL_id, bnd_int, bnd_bool, bnd_val, bnd_nil, bnd_junk, bnd_vs, bnd_xp, bnd_agg, bnd_tup, bnd_ptr, bnd_own, bnd_elem, bnd_fn, bnd_iface, bnd_opt, bnd_row, bnd_rcell, bnd_imap, bnd_smp, le_row, le_rcell, le_imap, le_smp, leH1_smap, bndL_nil, bndL_cons, lenH_cons, lenH_nil, imp_self, implies_true, true_and, and_true]
            simp
          · rintro ⟨out, s', q⟩ ⟨hout, hP⟩
            simp only at hout hP
            dsimp only [TK0_ct29, TK0_ct33, ofD, fewC, feC, encK, enc1, go_sem, Option.bind, Option.map, List.append_nil, Nat.beq, List.cons_append, List.nil_append, List.append_eq, List.map_cons, List.map_nil, ite_self, reduceIte]
            simp only [true_and, and_true, imp_self, implies_true, decide_eq_true_eq, decide_eq_false_iff_not, Nat.reduceAdd, Nat.reduceLeDiff, Bool.not_not, reduceCtorEq, false_imp_iff, Bool.not_eq_true', Bool.not_eq_false', Bool.false_eq_true, and_self, forall_const, ne_eq, not_false_eq_true, Nat.reduceEqDiff, Int.toNat_natCast]
            refine ⟨fun hn => ?_, fun hn => ?_⟩
            · obtain ⟨n1, n2⟩ := next_may (h := h0) (l := l) (s := s') (p := q) (by omega)
              have epath := path_cons (h := h0) (l := l) (s := s') (p := q) (by omega)
              obtain ⟨⟨hs', q0, q1⟩, _⟩ := hP
              obtain ⟨a, ha⟩ : ∃ a, a = (Few h0 l s' q).2 := ⟨_, rfl⟩
              rw [← ha] at hn n1 n2 epath
              simp only [← ha]
              have hpl := good_pl c3 n1
              have hP' : feP h0 l (s' ||| 2 ^ a.toNat) (plF l a) := ⟨⟨Nat.or_lt_two_pow hs' (Nat.pow_lt_pow_right (by omega) n1), hpl⟩, c3, c1, c2, hw⟩
              have hlft := leftN_step n1 n2
              have hl1 := leftN_le (s := s' ||| 2 ^ a.toNat) l.length
              have eS : bitI .or .u64 (s' : Int) ((maskF [a] : Nat) : Int) = ((s' ||| 2 ^ a.toNat : Nat) : Int) := by
                rw [mask1, u64_or (lt64 c2 hs') (Nat.pow_lt_pow_right (by omega) (by omega))]
              have hlen : out.length ≤ 12 := by
                have := congrArg List.length hout
                rw [List.length_append] at this
                obtain ⟨_, _, _, _, hpl0⟩ := path_valid (h := h0) hsm c5 _ s place rfl
                omega
              refine ⟨Nat.one_pos, ⟨by unfold capOk; omega, fun k hk => ?_⟩, ⟨hn, by omega⟩, Nat.one_pos, [a], ⟨⟨rfl, rfl, fun k hk => ?_⟩, small1 c2 hn (by omega), by simp⟩, h0, l, s' ||| 2 ^ a.toNat, ⟨⟨rfl, rfl, fun k _ => encR_view⟩, ⟨rfl, rfl, fun k _ => leXL_self _⟩, rfl, eS, hP', by omega⟩, by decide, by decide, (out ++ [a], s' ||| 2 ^ a.toNat, plF l a), ⟨?_, hP'⟩, by simp only; omega, ?_⟩
              · obtain rfl : k = 0 := by omega
                simp [takeL, dropL, lenL, ones, one]
              · obtain rfl : k = 0 := by omega
                exact leXL_self _
              · rw [← hout, epath, List.append_assoc]; rfl
              · simp only [eS, List.length_append, List.length_cons, List.length_nil, leS_mk, leL_cons, leL_nil, le_junk, le_int, le_bool, le_nil, leLL_nil, leLL_cons, leH_cons, leH_nil, leH1_box, leH1_own, leH1_gone, le_vs, le_agg, le_tup, le_ptr, le_own, le_xp, le_fn, le_opt, le_val, le_elem, le_nil_own, le_nil_vs, leH_ghost, leL_chunk, leXL_id, bnd_int, bnd_bool, bnd_val, bnd_nil, bnd_junk, bnd_vs, bnd_xp, bnd_agg, bnd_tup, bnd_ptr, bnd_own, bnd_elem, bnd_fn, bnd_iface, bnd_opt, bnd_row, bnd_rcell, bnd_imap, bnd_smp, le_row, le_rcell, le_imap, le_smp, leH1_smap, bndL_nil, bndL_cons, lenH_cons, lenH_nil, imp_self, implies_true, true_and, and_true]
                refine ⟨⟨by omega, by omega, rfl, by omega⟩, rfl, by simp, fun k hk => ?_⟩
                by_cases hko : k < out.length
                · rw [if_pos hko]
                  simp [List.getElem?_append, hko, leL, le]
                · obtain rfl : k = out.length := by omega
                  rw [if_neg hko]
                  simp [takeL, dropL, purgeL, purge, refs, leL, le]
            · have hnil := path_nil (h := h0) (l := l) (s := s') (p := q) (by omega)
              rw [hnil, List.append_nil] at hout
              rw [← hout] at h
              refine ans_le (h (decide (out.length = 0))) ?_ (fun _ => by simp [freshS, freshL, enc1])
              dsimp only [expo, enc1, go_sem, Option.bind, Option.map, List.append_nil, Nat.beq, List.cons_append, List.nil_append, List.append_eq, List.map_cons, List.map_nil, ite_self, reduceIte]
              simp only [leS_mk, leL_cons, leL_nil, le_junk, le_int, le_bool, le_nil, leLL_nil, leLL_cons, leH_cons, leH_nil, leH1_box, leH1_own, leH1_gone, le_vs, le_agg, le_tup, le_ptr, le_own, le_xp, le_fn, le_opt, le_val, le_elem, le_nil_own, le_nil_vs, leH_ghost, leL_chunk, leXL_id, bnd_int, bnd_bool, bnd_val, bnd_nil, bnd_junk, bnd_vs, bnd_xp, bnd_agg, bnd_tup, bnd_ptr, bnd_own, bnd_elem, bnd_fn, bnd_iface, bnd_opt, bnd_row, bnd_rcell, bnd_imap, bnd_smp, le_row, le_rcell, le_imap, le_smp, leH1_smap, bndL_nil, bndL_cons, lenH_cons, lenH_nil, imp_self, implies_true, true_and, and_true]
theorem Rest_ok : RestC.ok Try.prog 18 := by
  refine contract Try.func18 v18_is TK0_ok 300 RestC fun args k h => ?_
  simp only [RestC] at h
  split at h
  · rename_i t z n sz get t' z' n' sz' get' place t'' z'' n'' sz'' get''
    obtain ⟨h0, l, o, ⟨⟨rfl, rfl, hg⟩, ⟨rfl, rfl, hg'⟩, ⟨rfl, rfl, hg''⟩, ⟨hl, hh, hw⟩, ho⟩, h⟩ := h
    exact ⟨[.agg [.vs false z h0.length 1 (fun k => encR (h0.getD k default))], .vs false z' l.length 4 (fun k => encK (l.getD k default)), .int .i64 place, .vs false z'' o.length 1 (fun k => enc1 (o.getD k default))], ⟨⟨⟨fun h => (by cases h), rfl, rfl, rfl, hg⟩, trivial⟩, ⟨fun h => (by cases h), rfl, rfl, rfl, hg'⟩, ⟨rfl, rfl⟩, ⟨fun h => (by cases h), rfl, rfl, rfl, hg''⟩, trivial⟩, Rest_run (z := z) (z' := z') (z'' := z'') hl hh hw ho h⟩
  · rename_i t z n sz get t' z' n' sz' get' place
    obtain ⟨h0, l, ⟨⟨rfl, rfl, hg⟩, ⟨rfl, rfl, hg'⟩, ⟨hl, hh, hw⟩⟩, h⟩ := h
    exact ⟨[.agg [.vs false z h0.length 1 (fun k => encR (h0.getD k default))], .vs false z' l.length 4 (fun k => encK (l.getD k default)), .int .i64 place, .vs false true ([] : List Int).length 1 (fun k => enc1 (([] : List Int).getD k default))], ⟨⟨⟨fun h => (by cases h), rfl, rfl, rfl, hg⟩, trivial⟩, ⟨fun h => (by cases h), rfl, rfl, rfl, hg'⟩, ⟨rfl, rfl⟩, ⟨rfl, rfl⟩, trivial⟩, Rest_run (z := z) (z' := z') (z'' := true) (o := []) hl hh hw (by simp) h⟩
  · exact h.1.elim
def TK1 : Env := { ct := fun n => match n with | 18 => some RestC | _ => none, fn := fun _ => none, meth := fun _ _ => none }
theorem TK1_ct18 : TK1.ct 18 = some RestC := rfl
theorem TK1_ok : EnvOk Try.prog TK1 := by
  refine ⟨fun f c h => ?_, fun f vf h => ?_, (fun _ _ _ h => by cases h), by kernel_rfl⟩
  · simp only [TK1] at h
    split at h
    · cases h; exact ⟨Rest_ok, Try.f18, Try.func18, by kernel_rfl, by kernel_rfl⟩
    · cases h
  · cases h

def PlanC : Ctr := { alias := false, of := fun l => match l with
  | [.agg [.vs _ _ n sz get], .vs _ _ n' sz' get', .int .i64 place] => .ex Hal fun h => .ex (List Wk) fun l => .pre (lsP 1 encR n sz get h ∧ lsP 4 encK n' sz' get' l ∧ ((h.length ≤ 1000000000000 ∧ l.length ≤ 1000000000000) ∧ (∀ x ∈ h, x.v.length ≤ 1000000000000) ∧ okW l)) (.all Bool fun z => .fin (.tup [.vs true z (RestF h l place []).1.length 1 (fun k => enc1 ((RestF h l place []).1.getD k default)), .int .i64 (RestF h l place []).2.1, .int .i64 (RestF h l place []).2.2]) [])
  | _ => noC }
theorem Plan_ok : PlanC.ok Try.prog 16 := by
  refine contract Try.func16 v16_is TK1_ok 300 PlanC fun args k h => ?_
  simp only [PlanC] at h
  split at h
  · rename_i t z n sz get t' z' n' sz' get' place
    obtain ⟨h0, l, ⟨⟨rfl, rfl, hg⟩, ⟨rfl, rfl, hg'⟩, ⟨hl, hh, hw⟩⟩, h⟩ := h
    have h : ∀ z : Bool, k (.tup [.vs true z (RestF h0 l place []).1.length 1 (fun k => enc1 ((RestF h0 l place []).1.getD k default)), .int .i64 (RestF h0 l place []).2.1, .int .i64 (RestF h0 l place []).2.2]) [] := h
    refine ⟨[.agg [.vs false z h0.length 1 (fun k => encR (h0.getD k default))], .vs false z' l.length 4 (fun k => encK (l.getD k default)), .int .i64 place], ⟨⟨⟨fun h => (by cases h), rfl, rfl, rfl, hg⟩, trivial⟩, ⟨fun h => (by cases h), rfl, rfl, rfl, hg'⟩, ⟨rfl, rfl⟩, trivial⟩, ?_⟩
    dsimp only [v16, TK1_ct18, RestC, encK, go_sem, Option.bind, Option.map, List.append_nil, Nat.beq, List.cons_append, List.nil_append, List.append_eq, List.map_cons, List.map_nil, ite_self, reduceIte]
    simp only [true_and, and_true, imp_self, implies_true, decide_eq_true_eq, decide_eq_false_iff_not, Nat.reduceAdd, Nat.reduceLeDiff, Bool.not_not, reduceCtorEq, false_imp_iff, Bool.not_eq_true', Bool.not_eq_false', Bool.false_eq_true, and_self, forall_const, ne_eq, not_false_eq_true, Nat.reduceEqDiff]
    refine ⟨h0, l, ⟨⟨rfl, rfl, fun k _ => leXL_self _⟩, ⟨rfl, rfl, fun k _ => leXL_self _⟩, hl, hh, hw⟩, fun z => ?_⟩
    refine ⟨by decide, by decide, by decide, ?_⟩
    refine ans_le (h z) ?_ (fun _ => by simp [freshS, freshL, enc1])
    dsimp only [expo, enc1, go_sem, Option.bind, Option.map, List.append_nil, Nat.beq, List.cons_append, List.nil_append, List.append_eq, List.map_cons, List.map_nil, ite_self, reduceIte]
    simp only [leS_mk, leL_cons, leL_nil, le_junk, le_int, le_bool, le_nil, leLL_nil, leLL_cons, leH_cons, leH_nil, leH1_box, leH1_own, leH1_gone, le_vs, le_agg, le_tup, le_ptr, le_own, le_xp, le_fn, le_opt, le_val, le_elem, le_nil_own, le_nil_vs, leH_ghost, leL_chunk, leXL_id, bnd_int, bnd_bool, bnd_val, bnd_nil, bnd_junk, bnd_vs, bnd_xp, bnd_agg, bnd_tup, bnd_ptr, bnd_own, bnd_elem, bnd_fn, bnd_iface, bnd_opt, bnd_row, bnd_rcell, bnd_imap, bnd_smp, le_row, le_rcell, le_imap, le_smp, leH1_smap, bndL_nil, bndL_cons, lenH_cons, lenH_nil, imp_self, implies_true, true_and, and_true]
  · exact h.1.elim
end Go.Proofs.Yteioilioobichaa

/- Tuning, walked: the reference's may and fewest. -/
/- Tuning, walked: the reference's may and fewest. -/
set_option linter.all false
namespace Go.Proofs.Yteioilioobichaa
open Go Go.Vx
set_option maxRecDepth 100000
set_option maxHeartbeats 4000000

def v38 : VF := { ntmps := 43, res := [.tmp 6], body :=
 (.seq (.region [u1 6 .mov [.cn (.bool false)]])
 (.seq (.seq (.region [u1 8 .mov [.tm 1],
 u1 9 .mov [.tm 2],
 u1 10 (.conv .u64) [.tm 9],
 u1 11 .shr [.tm 8, .tm 10],
 u1 12 (.bit .and) [.tm 11, .cn (.int .i64 1)],
 u1 13 (.cmp .eql) [.tm 12, .cn (.int .i64 1)]])
 (.cond (.tm 13) (.seq (.region [u1 6 .mov [.cn (.bool false)]])
 .ret)
  .skip))
 (.seq (.seq (.region [u1 7 .mov [.cn (.int .i64 0)]])
 (.block 0 (.loop (.seq (.seq (.region [u1 14 .mov [.tm 7],
 u1 15 .mov [.tm 0],
 u1 16 .nilCheck [.tm 15],
 u1 17 (.fieldAddr 1) [.tm 16],
 u1 18 (.load false 1) [.tm 17],
 u1 19 .mov [.tm 2],
 u1 20 (.idxAddr 4) [.tm 18, .tm 19],
 u1 21 (.fieldAddr 2) [.tm 20],
 u1 22 (.load false 1) [.tm 21],
 u1 23 .len [.tm 22],
 u1 24 (.cmp .lss) [.tm 14, .tm 23]])
 (.cond (.tm 24) .skip
  (.exit 0)))
 (.seq (.block 1 (.seq (.region [u1 27 .mov [.tm 1],
 u1 28 .mov [.tm 0],
 u1 29 .nilCheck [.tm 28],
 u1 30 (.fieldAddr 1) [.tm 29],
 u1 31 (.load false 1) [.tm 30],
 u1 32 .mov [.tm 2],
 u1 33 (.idxAddr 4) [.tm 31, .tm 32],
 u1 34 (.fieldAddr 2) [.tm 33],
 u1 35 (.load false 1) [.tm 34],
 u1 36 .mov [.tm 7],
 u1 37 (.idxAddr 1) [.tm 35, .tm 36],
 u1 38 (.load false 1) [.tm 37],
 u1 39 (.conv .u64) [.tm 38],
 u1 40 .shr [.tm 27, .tm 39],
 u1 41 (.bit .and) [.tm 40, .cn (.int .i64 1)],
 u1 42 (.cmp .eql) [.tm 41, .cn (.int .i64 0)]])
 (.cond (.tm 42) (.seq (.region [u1 6 .mov [.cn (.bool false)]])
 .ret)
  .skip)))
 (.region [u1 25 .mov [.tm 7],
 u1 26 (.ari .add) [.tm 25, .cn (.int .i64 1)],
 u1 7 .mov [.tm 26]]))))))
 (.seq (.region [u1 6 .mov [.cn (.bool true)]])
 .ret)))) }
theorem v38_is : vfunc Try.prog Try.f38 = some v38 := by kernel_rfl
def v37 : VF := { ntmps := 99, res := [.tmp 6], body :=
 (.seq (.region [u1 6 .mov [.cn (.int .i64 0)]])
 (.seq (.seq (.region [u1 10 .mov [.tm 0],
 u1 11 .nilCheck [.tm 10],
 u1 12 (.fieldAddr 2) [.tm 11],
 u1 13 (.load false 1) [.tm 12],
 u1 14 .mov [.tm 1],
 u1 15 (.idxAddr 1) [.tm 13, .tm 14],
 u1 16 (.load false 1) [.tm 15],
 u1 17 .mov [.tm 2],
 u1 18 (.idxAddr 1) [.tm 16, .tm 17],
 u1 19 (.load false 1) [.tm 18],
 u1 20 (.cmp .geq) [.tm 19, .cn (.int .i64 0)]])
 (.cond (.tm 20) (.seq (.region [u1 21 .mov [.tm 0],
 u1 22 .nilCheck [.tm 21],
 u1 23 (.fieldAddr 2) [.tm 22],
 u1 24 (.load false 1) [.tm 23],
 u1 25 .mov [.tm 1],
 u1 26 (.idxAddr 1) [.tm 24, .tm 25],
 u1 27 (.load false 1) [.tm 26],
 u1 28 .mov [.tm 2],
 u1 29 (.idxAddr 1) [.tm 27, .tm 28],
 u1 30 (.load false 1) [.tm 29],
 u1 6 .mov [.tm 30]])
 .ret)
  .skip))
 (.seq (.region [u1 7 .mov [.cn (.int .i64 (-1))]])
 (.seq (.seq (.region [u1 8 .mov [.cn (.int .i64 0)]])
 (.block 0 (.loop (.seq (.seq (.region [u1 31 .mov [.tm 8],
 u1 32 .mov [.tm 0],
 u1 33 .nilCheck [.tm 32],
 u1 34 (.fieldAddr 1) [.tm 33],
 u1 35 (.load false 1) [.tm 34],
 u1 36 .len [.tm 35],
 u1 37 (.cmp .lss) [.tm 31, .tm 36]])
 (.cond (.tm 37) .skip
  (.exit 0)))
 (.seq (.block 1 (.seq (.region [u1 40 .mov [.tm 0],
 u1 41 .mov [.tm 1],
 u1 42 .mov [.tm 8],
 u1 43 (.call 38) [.tm 40, .tm 41, .tm 42]])
 (.cond (.tm 43) (.seq (.draw [] [w1 44 .mov [.tm 0],
 w1 45 .nilCheck [.tm 44],
 w1 46 (.fieldAddr 0) [.tm 45],
 w1 47 (.fieldAddr 0) [.tm 46],
 w1 48 (.load false 1) [.tm 47],
 w1 49 .mov [.tm 2],
 w1 50 (.idxAddr 1) [.tm 48, .tm 49],
 w1 51 (.load false 1) [.tm 50],
 w1 52 .mov [.tm 0],
 w1 53 .nilCheck [.tm 52],
 w1 54 (.fieldAddr 1) [.tm 53],
 w1 55 (.load false 1) [.tm 54],
 w1 56 .mov [.tm 8],
 w1 57 (.idxAddr 4) [.tm 55, .tm 56],
 w1 58 (.fieldAddr 1) [.tm 57],
 w1 59 (.load false 1) [.tm 58],
 w1 60 (.idxAddr 1) [.tm 51, .tm 59],
 w1 61 (.load false 1) [.tm 60],
 w1 62 .mov [.tm 0],
 w1 63 .mov [.tm 1],
 w1 64 .mov [.tm 8],
 w1 65 (.conv .u64) [.tm 64],
 w1 66 .shl [.cn (.int .i64 1), .tm 65],
 w1 67 (.bit .or) [.tm 63, .tm 66],
 w1 68 .mov [.tm 0],
 w1 69 .nilCheck [.tm 68],
 w1 70 (.fieldAddr 1) [.tm 69],
 w1 71 (.load false 1) [.tm 70],
 w1 72 .mov [.tm 8],
 w1 73 (.idxAddr 4) [.tm 71, .tm 72],
 w1 74 (.fieldAddr 1) [.tm 73],
 w1 75 (.load false 1) [.tm 74],
 w1 76 (.call 37) [.tm 62, .tm 67, .tm 75],
 w1 77 (.ari .add) [.tm 61, .tm 76],
 w1 9 .mov [.tm 77]])
 (.seq (.region [u1 78 .mov [.tm 7],
 u1 79 (.cmp .lss) [.tm 78, .cn (.int .i64 0)],
 u1 80 .mov [.tm 79],
 u2 81 80 false .mov [.tm 9],
 u2 82 80 false .mov [.tm 7],
 u2 83 80 false (.cmp .lss) [.tm 81, .tm 82],
 u1 84 .or [.tm 80, .tm 83]])
 (.cond (.tm 84) (.region [u1 85 .mov [.tm 9],
 u1 7 .mov [.tm 85]])
  .skip)))
  .skip)))
 (.region [u1 38 .mov [.tm 8],
 u1 39 (.ari .add) [.tm 38, .cn (.int .i64 1)],
 u1 8 .mov [.tm 39]]))))))
 (.seq (.region [u1 86 .mov [.tm 7],
 u1 87 .max [.tm 86, .cn (.int .i64 0)],
 u1 7 .mov [.tm 87]])
 (.seq (.region [u1 88 .mov [.tm 0],
 u1 89 .nilCheck [.tm 88],
 u1 90 (.fieldAddr 2) [.tm 89],
 u1 91 (.load false 1) [.tm 90],
 u1 92 .mov [.tm 1],
 u1 93 (.idxAddr 1) [.tm 91, .tm 92],
 u1 94 (.load false 1) [.tm 93],
 u1 95 .mov [.tm 2],
 u1 96 .mov [.tm 7],
 u1 97 (.idxAddr 1) [.tm 94, .tm 95],
 u0 (.store 1) [.tm 97, .tm 96]])
 (.seq (.region [u1 98 .mov [.tm 7],
 u1 6 .mov [.tm 98]])
 .ret))))))) }
theorem v37_is : vfunc Try.prog Try.f37 = some v37 := by kernel_rfl

def rmayC : Ctr := { alias := false, of := fun l => match l with
  | [.xp _ [_, .vs _ _ n sz get, _], .int .i64 d, .int .i64 i] => .ex (List Wk) fun l => .ex Nat fun S => .ex Nat fun I => .pre (lsP 4 encK n sz get l ∧ (d = S ∧ S < 2 ^ l.length) ∧ (i = I ∧ I < l.length) ∧ l.length ≤ 12 ∧ okW l ∧ aftW l) (.fin (.bool (mayF l S I)) [])
  | _ => noC }
theorem bit_and {S : Nat} {a : Int} (hS : S < 2 ^ 62) (a0 : 0 ≤ a) (a1 : a < 64) : bitI Bit.and IntKind.i64 ((S : Int).fdiv (2 ^ min (IntKind.u64.wrap a).toNat 64)) 1 = if S.testBit a.toNat = true then 1 else 0 := by
  have e0 : IntKind.u64.wrap a = a := IntWalk.u64_in _ (by omega)
  have e1 : min a.toNat 64 = a.toNat := by omega
  have e2 : ((2 : Int) ^ a.toNat) = ((2 ^ a.toNat : Nat) : Int) := by norm_cast
  rw [e0, e1, e2, Int.fdiv_eq_ediv_of_nonneg _ (Int.natCast_nonneg _)]
  have e3 : ((S : Int) / ((2 ^ a.toNat : Nat) : Int)) = ((S / 2 ^ a.toNat : Nat) : Int) := by norm_cast
  rw [e3, Nat.testBit_eq_decide_div_mod_eq]
  have hq : S / 2 ^ a.toNat < 2 ^ 62 := Nat.lt_of_le_of_lt (Nat.div_le_self _ _) hS
  generalize S / 2 ^ a.toNat = q at hq
  simp only [bitI]
  have e4 : (BitVec.ofInt IntKind.i64.bits (q : Int)).toNat = q := by
    rw [show IntKind.i64.bits = 64 from rfl, BitVec.toNat_ofInt]; omega
  have e5 : (BitVec.ofInt IntKind.i64.bits 1).toNat = 1 := rfl
  rw [BitVec.toNat_and, e4, e5, Nat.and_one_is_mod, IntWalk.i64_in _ (by omega)]
  rcases Nat.mod_two_eq_zero_or_one q with h | h
  · rw [h]; rfl
  · rw [h]; rfl
def TL0 : Env := { ct := fun _ => none, fn := fun _ => none, meth := fun _ _ => none }
theorem TL0_ok : EnvOk Try.prog TL0 := by
  refine ⟨fun f c h => ?_, fun f vf h => ?_, (fun _ _ _ h => by cases h), by kernel_rfl⟩
  · cases h
  · cases h

theorem rmay_ok : rmayC.ok Try.prog 38 := by
  refine contract Try.func38 v38_is TL0_ok 200 rmayC fun args k h => ?_
  simp only [rmayC] at h
  split at h
  · rename_i t x0 tz z n sz get x2 d i
    obtain ⟨l, S, I, ⟨⟨rfl, rfl, hg⟩, ⟨rfl, hS⟩, ⟨rfl, hI⟩, hl, hw, haft⟩, h⟩ := h
    have h : k _ [] := h
    refine ⟨[.xp t [x0, .vs false z l.length 4 (fun k => encK (l.getD k default)), x2], .int .i64 S, .int .i64 I], ⟨⟨id, leX_self _, ⟨fun h => (by cases h), rfl, rfl, rfl, hg⟩, leX_self _, trivial⟩, ⟨rfl, rfl⟩, ⟨rfl, rfl⟩, trivial⟩, ?_⟩
    dsimp only [v38, encK, go_sem, Option.bind, Option.map, List.append_nil, Nat.beq, List.cons_append, List.nil_append, List.append_eq, List.map_cons, List.map_nil, ite_self, reduceIte]
    simp only [true_and, and_true, imp_self, implies_true, decide_eq_true_eq, decide_eq_false_iff_not, Nat.reduceAdd, Nat.reduceLeDiff, Bool.not_not, reduceCtorEq, false_imp_iff, Bool.not_eq_true', Bool.not_eq_false', Bool.false_eq_true, and_self, forall_const, ne_eq, not_false_eq_true, Nat.reduceEqDiff, Int.toNat_natCast]
    have h62 : S < 2 ^ 62 := Nat.lt_of_lt_of_le hS (Nat.pow_le_pow_right (by omega) (by omega))
    rw [bit_and h62 (by omega) (by omega), Int.toNat_natCast]
    have hm := getD_mem hI
    have hsmI := aft_small haft hl _ hm
    have hmay := may_iff (s := S) hsmI
    refine ⟨by rw [IntWalk.u64_in _ (by omega)]; omega, fun hb => ?_, fun hb => ?_⟩
    · have hb : S.testBit I = true := by
        cases hb2 : S.testBit I with
        | true => rfl
        | false => rw [hb2] at hb; cases hb
      rw [hmay, hb] at h
      exact ans_bool h
    · have hb : S.testBit I = false := by
        cases hb2 : S.testBit I with
        | true => rw [hb2] at hb; exact absurd rfl hb
        | false => rfl
      rw [hmay, hb] at h
      refine Loop.keep [0, 0, 0] Nat (fun i => [(6, .bool false), (7, .int .i64 i)]) (fun _ => []) [] (fun i => i ≤ (l.getD I default).af.v.length ∧ ∀ j, j < i → S.testBit ((l.getD I default).af.v.getD j default).toNat = true) (fun i => (l.getD I default).af.v.length - i) ?_ ?_
      · refine ⟨0, ⟨Nat.zero_le _, fun j hj => by omega⟩, ?_⟩
        dsimp only [go_sem, Option.bind, Option.map, List.append_nil, Nat.beq, List.cons_append, List.nil_append, List.append_eq, List.map_cons, List.map_nil, ite_self, reduceIte]
        simp only [leS_mk, leL_cons, leL_nil, le_junk, le_int, le_bool, le_nil, leLL_nil, leLL_cons, leH_cons, leH_nil, leH1_box, leH1_own, leH1_gone, le_vs, le_agg, le_tup, le_ptr, le_own, le_xp, le_fn, le_opt, le_val, le_elem, le_nil_own, le_nil_vs, leH_ghost, leL_chunk, leXL_id, bnd_int, bnd_bool, bnd_val, bnd_nil, bnd_junk, bnd_vs, bnd_xp, bnd_agg, bnd_tup, bnd_ptr, bnd_own, bnd_elem, bnd_fn, bnd_iface, bnd_opt, bnd_row, bnd_rcell, bnd_imap, bnd_smp, le_row, le_rcell, le_imap, le_smp, leH1_smap, bndL_nil, bndL_cons, lenH_cons, lenH_nil, imp_self, implies_true, true_and, and_true]
        simp
      · rintro i ⟨hi, hia⟩
        dsimp only [encK, enc1, go_sem, Option.bind, Option.map, List.append_nil, Nat.beq, List.cons_append, List.nil_append, List.append_eq, List.map_cons, List.map_nil, ite_self, reduceIte]
        simp only [true_and, and_true, imp_self, implies_true, decide_eq_true_eq, decide_eq_false_iff_not, Nat.reduceAdd, Nat.reduceLeDiff, Bool.not_not, reduceCtorEq, false_imp_iff, Bool.not_eq_true', Bool.not_eq_false', Bool.false_eq_true, and_self, forall_const, ne_eq, not_false_eq_true, Nat.reduceEqDiff, Int.toNat_natCast]
        have hal := (hw _ hm).1
        refine ⟨⟨by omega, by omega⟩, fun hlt => ?_, fun hge => ?_⟩
        · have hi' : i < (l.getD I default).af.v.length := by omega
          obtain ⟨a0, a1⟩ := haft _ hm _ (getD_mem hi')
          have hbt := bit_and h62 a0 (by omega)
          simp only [hbt]
          refine ⟨⟨by omega, by omega⟩, ⟨by omega, hlt⟩, by rw [IntWalk.u64_in _ (by omega)]; omega, fun hb2 => ?_, fun hb2 => ?_⟩
          · have : ((l.getD I default).af.v.all fun a => S.testBit a.toNat) = false := by
              rw [List.all_eq_false]
              refine ⟨_, getD_mem hi', fun hb3 => ?_⟩
              rw [hb3] at hb2; cases hb2
            rw [this] at h
            exact ans_bool h
          · refine ⟨i + 1, ⟨by omega, lt_succ_all hia ?_⟩, by omega, ?_⟩
            · cases hb3 : S.testBit ((l.getD I default).af.v.getD i default).toNat with
              | true => rfl
              | false => rw [hb3] at hb2; exact absurd rfl hb2
            · simp only [leS_mk, leL_cons, leL_nil, le_junk, le_int, le_bool, le_nil, leLL_nil, leLL_cons, leH_cons, leH_nil, leH1_box, leH1_own, leH1_gone, le_vs, le_agg, le_tup, le_ptr, le_own, le_xp, le_fn, le_opt, le_val, le_elem, le_nil_own, le_nil_vs, leH_ghost, leL_chunk, leXL_id, bnd_int, bnd_bool, bnd_val, bnd_nil, bnd_junk, bnd_vs, bnd_xp, bnd_agg, bnd_tup, bnd_ptr, bnd_own, bnd_elem, bnd_fn, bnd_iface, bnd_opt, bnd_row, bnd_rcell, bnd_imap, bnd_smp, le_row, le_rcell, le_imap, le_smp, leH1_smap, bndL_nil, bndL_cons, lenH_cons, lenH_nil, imp_self, implies_true, true_and, and_true]
              exact w_succ hi' (by omega)
        · have : ((l.getD I default).af.v.all fun a => S.testBit a.toNat) = true := by
            rw [List.all_eq_true]
            intro x hx
            obtain ⟨j, hj, rfl⟩ := mem_getD hx
            exact hia j (by omega)
          rw [this] at h
          exact ans_bool h
  · exact h.1.elim
end Go.Proofs.Yteioilioobichaa

