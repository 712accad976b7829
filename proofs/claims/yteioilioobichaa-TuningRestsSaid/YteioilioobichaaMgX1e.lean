/- Tuning, walked: the laws' helpers. -/
import Derived.Test.YteioilioobichaaMgX1d
import Derived.Test.YteioilioobichaaRows
/- Tuning, walked: the laws' helpers. -/
set_option linter.all false
namespace Go.Proofs.Yteioilioobichaa
open Go Go.Vx
set_option maxRecDepth 100000
set_option maxHeartbeats 4000000

def v20 : VF := { ntmps := 32, res := [.tmp 4], body :=
 (.seq (.region [u1 4 .mov [.cn (.bool false)]])
 (.seq (.seq (.region [u1 5 .mov [.cn (.int .i64 0)]])
 (.block 0 (.loop (.seq (.seq (.region [u1 6 .mov [.tm 5],
 u1 7 .mov [.tm 0],
 u1 8 .len [.tm 7],
 u1 9 (.cmp .lss) [.tm 6, .tm 8],
 u1 10 .mov [.tm 9],
 u2 11 10 true .mov [.tm 5],
 u2 12 10 true .mov [.tm 1],
 u2 13 10 true .len [.tm 12],
 u2 14 10 true (.cmp .lss) [.tm 11, .tm 13],
 u1 15 .and [.tm 10, .tm 14]])
 (.cond (.tm 15) .skip
  (.exit 0)))
 (.seq (.block 1 (.seq (.draw [] [w1 18 .mov [.tm 0],
 w1 19 .mov [.tm 5],
 w1 20 (.idxAddr 1) [.tm 18, .tm 19],
 w1 21 (.load false 1) [.tm 20],
 w1 22 .mov [.tm 1],
 w1 23 .mov [.tm 5],
 w1 24 (.idxAddr 1) [.tm 22, .tm 23],
 w1 25 (.load false 1) [.tm 24],
 w1 26 (.cmp .neq) [.tm 21, .tm 25]])
 (.cond (.tm 26) (.seq (.region [u1 4 .mov [.cn (.bool false)]])
 .ret)
  .skip)))
 (.region [u1 16 .mov [.tm 5],
 u1 17 (.ari .add) [.tm 16, .cn (.int .i64 1)],
 u1 5 .mov [.tm 17]]))))))
 (.seq (.region [u1 27 .mov [.tm 0],
 u1 28 .len [.tm 27],
 u1 29 .mov [.tm 1],
 u1 30 .len [.tm 29],
 u1 31 (.cmp .eql) [.tm 28, .tm 30],
 u1 4 .mov [.tm 31]])
 .ret))) }
theorem v20_is : vfunc Try.prog Try.f20 = some v20 := by kernel_rfl
def v15 : VF := { ntmps := 32, res := [.tmp 4], body :=
 (.seq (.region [u1 4 .mov [.cn (.bool false)]])
 (.seq (.seq (.region [u1 5 .mov [.cn (.int .i64 0)]])
 (.block 0 (.loop (.seq (.seq (.region [u1 6 .mov [.tm 5],
 u1 7 .mov [.tm 0],
 u1 8 .len [.tm 7],
 u1 9 (.cmp .lss) [.tm 6, .tm 8],
 u1 10 .mov [.tm 9],
 u2 11 10 true .mov [.tm 5],
 u2 12 10 true .mov [.tm 1],
 u2 13 10 true .len [.tm 12],
 u2 14 10 true (.cmp .lss) [.tm 11, .tm 13],
 u1 15 .and [.tm 10, .tm 14]])
 (.cond (.tm 15) .skip
  (.exit 0)))
 (.seq (.block 1 (.seq (.draw [] [w1 18 .mov [.tm 0],
 w1 19 .mov [.tm 5],
 w1 20 (.idxAddr 2) [.tm 18, .tm 19],
 w1 21 (.load true 2) [.tm 20],
 w1 22 .mov [.tm 1],
 w1 23 .mov [.tm 5],
 w1 24 (.idxAddr 2) [.tm 22, .tm 23],
 w1 25 (.load true 2) [.tm 24],
 w1 26 (.eqv true [true, true]) [.tm 21, .tm 25]])
 (.cond (.tm 26) (.seq (.region [u1 4 .mov [.cn (.bool false)]])
 .ret)
  .skip)))
 (.region [u1 16 .mov [.tm 5],
 u1 17 (.ari .add) [.tm 16, .cn (.int .i64 1)],
 u1 5 .mov [.tm 17]]))))))
 (.seq (.region [u1 27 .mov [.tm 0],
 u1 28 .len [.tm 27],
 u1 29 .mov [.tm 1],
 u1 30 .len [.tm 29],
 u1 31 (.cmp .eql) [.tm 28, .tm 30],
 u1 4 .mov [.tm 31]])
 .ret))) }
theorem v15_is : vfunc Try.prog Try.f15 = some v15 := by kernel_rfl
def v7 : VF := { ntmps := 52, res := [.tmp 4], body :=
 (.seq (.region [u1 2 .box [.tm 0],
 u1 4 .mov [.cn (.bool false)]])
 (.seq (.seq (.region [u1 7 (.fieldAddr 0) [.tm 2],
 u1 8 (.load false 1) [.tm 7],
 u1 9 .len [.tm 8],
 u1 10 (.cmp .gtr) [.tm 9, .cn (.int .i64 100)],
 u1 11 .mov [.tm 10],
 u2 12 11 false .mov [.tm 1],
 u2 13 11 false .len [.tm 12],
 u2 14 11 false (.cmp .gtr) [.tm 13, .cn (.int .i64 100)],
 u1 15 .or [.tm 11, .tm 14]])
 (.cond (.tm 15) (.seq (.region [u1 4 .mov [.cn (.bool true)]])
 .ret)
  .skip))
 (.seq (.seq (.region [u1 5 .mov [.cn (.int .i64 0)]])
 (.block 0 (.loop (.seq (.seq (.region [u1 16 .mov [.tm 5],
 u1 17 (.fieldAddr 0) [.tm 2],
 u1 18 (.load false 1) [.tm 17],
 u1 19 .len [.tm 18],
 u1 20 (.cmp .lss) [.tm 16, .tm 19]])
 (.cond (.tm 20) .skip
  (.exit 0)))
 (.seq (.block 1 (.seq (.region [u1 23 (.fieldAddr 0) [.tm 2],
 u1 24 (.load false 1) [.tm 23],
 u1 25 .mov [.tm 5],
 u1 26 (.idxAddr 1) [.tm 24, .tm 25],
 u1 27 (.load false 1) [.tm 26],
 u1 28 .len [.tm 27],
 u1 29 (.cmp .gtr) [.tm 28, .cn (.int .i64 100)]])
 (.cond (.tm 29) (.seq (.region [u1 4 .mov [.cn (.bool true)]])
 .ret)
  .skip)))
 (.region [u1 21 .mov [.tm 5],
 u1 22 (.ari .add) [.tm 21, .cn (.int .i64 1)],
 u1 5 .mov [.tm 22]]))))))
 (.seq (.seq (.region [u1 6 .mov [.cn (.int .i64 0)]])
 (.block 2 (.loop (.seq (.seq (.region [u1 30 .mov [.tm 6],
 u1 31 .mov [.tm 1],
 u1 32 .len [.tm 31],
 u1 33 (.cmp .lss) [.tm 30, .tm 32]])
 (.cond (.tm 33) .skip
  (.exit 2)))
 (.seq (.block 3 (.seq (.region [u1 36 .mov [.tm 1],
 u1 37 .mov [.tm 6],
 u1 38 (.idxAddr 4) [.tm 36, .tm 37],
 u1 39 (.fieldAddr 2) [.tm 38],
 u1 40 (.load false 1) [.tm 39],
 u1 41 .len [.tm 40],
 u1 42 (.cmp .gtr) [.tm 41, .cn (.int .i64 100)],
 u1 43 .mov [.tm 42],
 u2 44 43 false .mov [.tm 1],
 u2 45 43 false .mov [.tm 6],
 u2 46 43 false (.idxAddr 4) [.tm 44, .tm 45],
 u2 47 43 false (.fieldAddr 0) [.tm 46],
 u2 48 43 false (.load false 1) [.tm 47],
 u2 49 43 false .lenStr [.tm 48],
 u2 50 43 false (.cmp .gtr) [.tm 49, .cn (.int .i64 1000)],
 u1 51 .or [.tm 43, .tm 50]])
 (.cond (.tm 51) (.seq (.region [u1 4 .mov [.cn (.bool true)]])
 .ret)
  .skip)))
 (.region [u1 34 .mov [.tm 6],
 u1 35 (.ari .add) [.tm 34, .cn (.int .i64 1)],
 u1 6 .mov [.tm 35]]))))))
 (.seq (.region [u1 4 .mov [.cn (.bool false)]])
 .ret))))) }
theorem v7_is : vfunc Try.prog Try.f7 = some v7 := by kernel_rfl
def v22 : VF := { ntmps := 12, res := [.cell 0 true 1, .tmp 1], body :=
 (.seq (.region [u1 0 (.alloc [.nil]) [],
 u1 1 .mov [.cn .nil]])
 (.seq (.region [u1 2 (.buildSlice 1 3 [(.int .i64 0)] [(0, 1), (1, 1), (2, 1)]) [.cn (.int .i64 0), .cn (.int .i64 2), .cn (.int .i64 5)],
 u1 3 (.buildSlice 1 3 [(.int .i64 0)] [(0, 1), (1, 1), (2, 1)]) [.cn (.int .i64 2), .cn (.int .i64 0), .cn (.int .i64 1)],
 u1 4 (.buildSlice 1 3 [(.int .i64 0)] [(0, 1), (1, 1), (2, 1)]) [.cn (.int .i64 5), .cn (.int .i64 1), .cn (.int .i64 0)],
 u1 5 (.buildSlice 1 3 [.nil] [(0, 1), (1, 1), (2, 1)]) [.tm 2, .tm 3, .tm 4],
 u1 6 (.build [.nil] [(0, 1)]) [.tm 5],
 u1 7 (.build [(.val (.string ⟨#[]⟩)), (.int .i64 0), .nil, (.int .i64 0)] [(0, 1), (1, 1), (3, 1)]) [.cn (.val (.string ⟨#[103, 114, 101, 97, 116]⟩)), .cn (.int .i64 0), .cn (.int .i64 30)],
 u1 8 (.buildSlice 1 1 [(.int .i64 0)] [(0, 1)]) [.cn (.int .i64 0)],
 u1 9 (.build [(.val (.string ⟨#[]⟩)), (.int .i64 0), .nil, (.int .i64 0)] [(0, 1), (1, 1), (2, 1), (3, 1)]) [.cn (.val (.string ⟨#[115, 119, 101, 108, 108]⟩)), .cn (.int .i64 2), .tm 8, .cn (.int .i64 20)],
 u1 10 (.build [(.val (.string ⟨#[]⟩)), (.int .i64 0), .nil, (.int .i64 0)] [(0, 1), (1, 1), (3, 1)]) [.cn (.val (.string ⟨#[114, 101, 101, 100, 115]⟩)), .cn (.int .i64 1), .cn (.int .i64 10)],
 u1 11 (.buildSlice 4 3 [(.val (.string ⟨#[]⟩)), (.int .i64 0), .nil, (.int .i64 0)] [(0, 4), (4, 4), (8, 4)]) [.tm 7, .tm 9, .tm 10],
 u0 (.store 1) [.tm 0, .tm 6],
 u1 1 .mov [.tm 11]])
 .ret)) }
theorem v22_is : vfunc Try.prog Try.f22 = some v22 := by kernel_rfl

def samC : Ctr := { alias := false, of := fun l => match l with
  | [.vs _ _ n sz get, .vs _ _ n' sz' get'] => .ex (List Int) fun a => .ex (List Int) fun b => .pre (lsP 1 enc1 n sz get a ∧ lsP 1 enc1 n' sz' get' b ∧ a.length ≤ 1000000000000) (.fin (.bool (decide (a = b))) [])
  | _ => noC }
def TM0 : Env := { ct := fun _ => none, fn := fun _ => none, meth := fun _ _ => none }
theorem TM0_ok : EnvOk Try.prog TM0 := by
  refine ⟨fun f c h => ?_, fun f vf h => ?_, (fun _ _ _ h => by cases h), by kernel_rfl⟩
  · cases h
  · cases h

theorem eq_fst {α : Type} [Inhabited α] {a b : List α} (h : ∀ j, j < a.length → j < b.length → a.getD j default = b.getD j default) : (a = b) ↔ (a.length : Int) = b.length := by
  constructor
  · rintro rfl; rfl
  · intro hl
    exact list_ext (by omega) fun i hi => h i hi (by omega)
theorem sam_ok : samC.ok Try.prog 20 := by
  refine contract Try.func20 v20_is TM0_ok 200 samC fun args k h => ?_
  simp only [samC] at h
  split at h
  · rename_i t z n sz get t' z' n' sz' get'
    obtain ⟨a, b, ⟨⟨rfl, rfl, hg⟩, ⟨rfl, rfl, hg'⟩, hl⟩, h⟩ := h
    have h : k _ [] := h
    refine ⟨[.vs false z a.length 1 (fun k => enc1 (a.getD k default)), .vs false z' b.length 1 (fun k => enc1 (b.getD k default))], ⟨⟨fun h => (by cases h), rfl, rfl, rfl, hg⟩, ⟨fun h => (by cases h), rfl, rfl, rfl, hg'⟩, trivial⟩, ?_⟩
    dsimp only [v20, go_sem, Option.bind, Option.map, List.append_nil, Nat.beq, List.cons_append, List.nil_append, List.append_eq, List.map_cons, List.map_nil, ite_self, reduceIte]
    simp only [true_and, and_true, imp_self, implies_true, decide_eq_true_eq, decide_eq_false_iff_not, Nat.reduceAdd, Nat.reduceLeDiff, Bool.not_not, reduceCtorEq, false_imp_iff, Bool.not_eq_true', Bool.not_eq_false', Bool.false_eq_true, and_self, forall_const, ne_eq, not_false_eq_true, Nat.reduceEqDiff]
    refine Loop.keep [0, 0] Nat (fun i => [(4, .bool false), (5, .int .i64 i)]) (fun _ => []) [] (fun i => i ≤ a.length ∧ i ≤ b.length ∧ ∀ j, j < i → a.getD j default = b.getD j default) (fun i => a.length - i) ?_ ?_
    · refine ⟨0, ⟨Nat.zero_le _, Nat.zero_le _, fun j hj => by omega⟩, ?_⟩
      dsimp only [go_sem, Option.bind, Option.map, List.append_nil, Nat.beq, List.cons_append, List.nil_append, List.append_eq, List.map_cons, List.map_nil, ite_self, reduceIte]
      simp only [leS_mk, leL_cons, leL_nil, le_junk, le_int, le_bool, le_nil, leLL_nil, leLL_cons, leH_cons, leH_nil, leH1_box, leH1_own, leH1_gone, le_vs, le_agg, le_tup, le_ptr, le_own, le_xp, le_fn, le_opt, le_val, le_elem, le_nil_own, le_nil_vs, leH_ghost, leL_chunk, leXL_id, bnd_int, bnd_bool, bnd_val, bnd_nil, bnd_junk, bnd_vs, bnd_xp, bnd_agg, bnd_tup, bnd_ptr, bnd_own, bnd_elem, bnd_fn, bnd_iface, bnd_opt, bnd_row, bnd_rcell, bnd_imap, bnd_smp, le_row, le_rcell, le_imap, le_smp, leH1_smap, bndL_nil, bndL_cons, lenH_cons, lenH_nil, imp_self, implies_true, true_and, and_true]
      simp
    · rintro i ⟨hi, hi2, hia⟩
      dsimp only [enc1, go_sem, Option.bind, Option.map, List.append_nil, Nat.beq, List.cons_append, List.nil_append, List.append_eq, List.map_cons, List.map_nil, ite_self, reduceIte]
      simp only [true_and, and_true, imp_self, implies_true, decide_eq_true_eq, decide_eq_false_iff_not, Nat.reduceAdd, Nat.reduceLeDiff, Bool.not_not, reduceCtorEq, false_imp_iff, Bool.not_eq_true', Bool.not_eq_false', Bool.false_eq_true, and_self, forall_const, ne_eq, not_false_eq_true, Nat.reduceEqDiff, Int.toNat_natCast]
      refine ⟨fun hc => ?_, fun hc => ?_⟩
      · rw [Bool.and_eq_true, decide_eq_true_eq, decide_eq_true_eq] at hc
        refine ⟨⟨by omega, hc.1⟩, ⟨by omega, hc.2⟩, fun hn => ?_, fun he => ?_⟩
        · rw [decide_eq_false (fun e => hn (by rw [e]))] at h
          exact ans_bool h
        · refine ⟨i + 1, ⟨by omega, by omega, lt_succ_all hia he⟩, by omega, ?_⟩
          simp only [leS_mk, leL_cons, leL_nil, le_junk, le_int, le_bool, le_nil, leLL_nil, leLL_cons, leH_cons, leH_nil, leH1_box, leH1_own, leH1_gone, le_vs, le_agg, le_tup, le_ptr, le_own, le_xp, le_fn, le_opt, le_val, le_elem, le_nil_own, le_nil_vs, leH_ghost, leL_chunk, leXL_id, bnd_int, bnd_bool, bnd_val, bnd_nil, bnd_junk, bnd_vs, bnd_xp, bnd_agg, bnd_tup, bnd_ptr, bnd_own, bnd_elem, bnd_fn, bnd_iface, bnd_opt, bnd_row, bnd_rcell, bnd_imap, bnd_smp, le_row, le_rcell, le_imap, le_smp, leH1_smap, bndL_nil, bndL_cons, lenH_cons, lenH_nil, imp_self, implies_true, true_and, and_true]
          exact w_succ (by omega : i < a.length) (by omega)
      · rw [Bool.and_eq_false_iff, decide_eq_false_iff_not, decide_eq_false_iff_not] at hc
        rw [decide_eq_decide.2 (eq_fst fun j hj hj2 => hia j (by omega))] at h
        exact ans_bool h
  · exact h.1.elim
def enc0 (x : Int) : List SV := [.int .i64 0, .int .i64 x]
def sivC : Ctr := { alias := false, of := fun l => match l with
  | [.vs _ _ n sz get, .vs _ _ n' sz' get'] => .ex (List Int) fun a => .ex (List Int) fun b => .pre (lsP 2 enc0 n sz get a ∧ lsP 2 enc0 n' sz' get' b ∧ a.length ≤ 1000000000000) (.fin (.bool (decide (a = b))) [])
  | _ => noC }
theorem siv_ok : sivC.ok Try.prog 15 := by
  refine contract Try.func15 v15_is TM0_ok 200 sivC fun args k h => ?_
  simp only [sivC] at h
  split at h
  · rename_i t z n sz get t' z' n' sz' get'
    obtain ⟨a, b, ⟨⟨rfl, rfl, hg⟩, ⟨rfl, rfl, hg'⟩, hl⟩, h⟩ := h
    have h : k _ [] := h
    refine ⟨[.vs false z a.length 2 (fun k => enc0 (a.getD k default)), .vs false z' b.length 2 (fun k => enc0 (b.getD k default))], ⟨⟨fun h => (by cases h), rfl, rfl, rfl, hg⟩, ⟨fun h => (by cases h), rfl, rfl, rfl, hg'⟩, trivial⟩, ?_⟩
    dsimp only [v15, go_sem, Option.bind, Option.map, List.append_nil, Nat.beq, List.cons_append, List.nil_append, List.append_eq, List.map_cons, List.map_nil, ite_self, reduceIte]
    simp only [true_and, and_true, imp_self, implies_true, decide_eq_true_eq, decide_eq_false_iff_not, Nat.reduceAdd, Nat.reduceLeDiff, Bool.not_not, reduceCtorEq, false_imp_iff, Bool.not_eq_true', Bool.not_eq_false', Bool.false_eq_true, and_self, forall_const, ne_eq, not_false_eq_true, Nat.reduceEqDiff]
    refine Loop.keep [0, 0] Nat (fun i => [(4, .bool false), (5, .int .i64 i)]) (fun _ => []) [] (fun i => i ≤ a.length ∧ i ≤ b.length ∧ ∀ j, j < i → a.getD j default = b.getD j default) (fun i => a.length - i) ?_ ?_
    · refine ⟨0, ⟨Nat.zero_le _, Nat.zero_le _, fun j hj => by omega⟩, ?_⟩
      dsimp only [go_sem, Option.bind, Option.map, List.append_nil, Nat.beq, List.cons_append, List.nil_append, List.append_eq, List.map_cons, List.map_nil, ite_self, reduceIte]
      simp only [leS_mk, leL_cons, leL_nil, le_junk, le_int, le_bool, le_nil, leLL_nil, leLL_cons, leH_cons, leH_nil, leH1_box, leH1_own, leH1_gone, le_vs, le_agg, le_tup, le_ptr, le_own, le_xp, le_fn, le_opt, le_val, le_elem, le_nil_own, le_nil_vs, leH_ghost, leL_chunk, leXL_id, bnd_int, bnd_bool, bnd_val, bnd_nil, bnd_junk, bnd_vs, bnd_xp, bnd_agg, bnd_tup, bnd_ptr, bnd_own, bnd_elem, bnd_fn, bnd_iface, bnd_opt, bnd_row, bnd_rcell, bnd_imap, bnd_smp, le_row, le_rcell, le_imap, le_smp, leH1_smap, bndL_nil, bndL_cons, lenH_cons, lenH_nil, imp_self, implies_true, true_and, and_true]
      simp
    · rintro i ⟨hi, hi2, hia⟩
      dsimp only [enc0, go_sem, Option.bind, Option.map, List.append_nil, Nat.beq, List.cons_append, List.nil_append, List.append_eq, List.map_cons, List.map_nil, ite_self, reduceIte]
      simp only [true_and, and_true, imp_self, implies_true, decide_eq_true_eq, decide_eq_false_iff_not, Nat.reduceAdd, Nat.reduceLeDiff, Bool.not_not, reduceCtorEq, false_imp_iff, Bool.not_eq_true', Bool.not_eq_false', Bool.false_eq_true, and_self, forall_const, ne_eq, not_false_eq_true, Nat.reduceEqDiff, Int.toNat_natCast]
      refine ⟨fun hc => ?_, fun hc => ?_⟩
      · rw [Bool.and_eq_true, decide_eq_true_eq, decide_eq_true_eq] at hc
        refine ⟨⟨by omega, hc.1⟩, ⟨by omega, hc.2⟩, fun hn => ?_, fun he => ?_⟩
        · rw [decide_eq_false (fun e => by rw [e] at hn; simp at hn)] at h
          exact ans_bool h
        · refine ⟨i + 1, ⟨by omega, by omega, lt_succ_all hia (by simpa using he)⟩, by omega, ?_⟩
          simp only [leS_mk, leL_cons, leL_nil, le_junk, le_int, le_bool, le_nil, leLL_nil, leLL_cons, leH_cons, leH_nil, leH1_box, leH1_own, leH1_gone, le_vs, le_agg, le_tup, le_ptr, le_own, le_xp, le_fn, le_opt, le_val, le_elem, le_nil_own, le_nil_vs, leH_ghost, leL_chunk, leXL_id, bnd_int, bnd_bool, bnd_val, bnd_nil, bnd_junk, bnd_vs, bnd_xp, bnd_agg, bnd_tup, bnd_ptr, bnd_own, bnd_elem, bnd_fn, bnd_iface, bnd_opt, bnd_row, bnd_rcell, bnd_imap, bnd_smp, le_row, le_rcell, le_imap, le_smp, leH1_smap, bndL_nil, bndL_cons, lenH_cons, lenH_nil, imp_self, implies_true, true_and, and_true]
          exact w_succ (by omega : i < a.length) (by omega)
      · rw [Bool.and_eq_false_iff, decide_eq_false_iff_not, decide_eq_false_iff_not] at hc
        rw [decide_eq_decide.2 (eq_fst fun j hj hj2 => hia j (by omega))] at h
        exact ans_bool h
  · exact h.1.elim
def longW (x : Wk) : Bool := decide (100 < (x.af.v.length : Int)) || decide (1000 < (x.nm.size : Int))
def farF (h : Hal) (l : List Wk) : Bool := decide (100 < (h.length : Int)) || decide (100 < (l.length : Int)) || h.any (fun x => decide (100 < (x.v.length : Int))) || l.any longW
def farC : Ctr := { alias := false, of := fun l => match l with
  | [.agg [.vs _ _ n sz get], .vs _ _ n' sz' get'] => .ex Hal fun h => .ex (List Wk) fun l => .pre (lsP 1 encR n sz get h ∧ lsP 4 encK n' sz' get' l) (.fin (.bool (farF h l)) [])
  | _ => noC }
theorem any_no {α : Type} [Inhabited α] {l : List α} {f : α → Bool} (h : ∀ j, j < l.length → f (l.getD j default) = false) : l.any f = false := by
  rw [List.any_eq_false]
  intro x hx
  obtain ⟨j, hj, rfl⟩ := mem_getD hx
  rw [h j hj]; simp
theorem any_yes {α : Type} [Inhabited α] {l : List α} {f : α → Bool} {j : Nat} (hj : j < l.length) (h : f (l.getD j default) = true) : l.any f = true :=
  List.any_eq_true.2 ⟨_, getD_mem hj, h⟩
theorem far_ok : farC.ok Try.prog 7 := by
  refine contract Try.func7 v7_is TM0_ok 300 farC fun args k h => ?_
  simp only [farC] at h
  split at h
  · rename_i t z n sz get t' z' n' sz' get'
    obtain ⟨h0, l, ⟨⟨rfl, rfl, hg⟩, ⟨rfl, rfl, hg'⟩⟩, h⟩ := h
    have h : k _ [] := h
    refine ⟨[.agg [.vs false z h0.length 1 (fun k => encR (h0.getD k default))], .vs false z' l.length 4 (fun k => encK (l.getD k default))], ⟨⟨⟨fun h => (by cases h), rfl, rfl, rfl, hg⟩, trivial⟩, ⟨fun h => (by cases h), rfl, rfl, rfl, hg'⟩, trivial⟩, ?_⟩
    dsimp only [v7, go_sem, Option.bind, Option.map, List.append_nil, Nat.beq, List.cons_append, List.nil_append, List.append_eq, List.map_cons, List.map_nil, ite_self, reduceIte]
    simp only [true_and, and_true, imp_self, implies_true, decide_eq_true_eq, decide_eq_false_iff_not, Nat.reduceAdd, Nat.reduceLeDiff, Bool.not_not, reduceCtorEq, false_imp_iff, Bool.not_eq_true', Bool.not_eq_false', Bool.false_eq_true, and_self, forall_const, ne_eq, not_false_eq_true, Nat.reduceEqDiff]
    refine ⟨fun hc => ?_, fun hc => ?_⟩
    · unfold farF at h
      rw [hc, Bool.true_or, Bool.true_or] at h
      exact ans_bool h
    have hc' := hc
    simp only [Bool.or_eq_false_iff, decide_eq_false_iff_not] at hc'
    refine Loop.keep [1, 0] Nat (fun i => [(4, .bool false), (5, .int .i64 i)]) (fun _ => []) [] (fun i => i ≤ h0.length ∧ ∀ j, j < i → ¬ (100 < ((h0.getD j default).v.length : Int))) (fun i => h0.length - i) ?_ ?_
    · refine ⟨0, ⟨Nat.zero_le _, fun j hj => by omega⟩, ?_⟩
      dsimp only [go_sem, Option.bind, Option.map, List.append_nil, Nat.beq, List.cons_append, List.nil_append, List.append_eq, List.map_cons, List.map_nil, ite_self, reduceIte]
      simp only [leS_mk, leL_cons, leL_nil, le_junk, le_int, le_bool, le_nil, leLL_nil, leLL_cons, leH_cons, leH_nil, leH1_box, leH1_own, leH1_gone, le_vs, le_agg, le_tup, le_ptr, le_own, le_xp, le_fn, le_opt, le_val, le_elem, le_nil_own, le_nil_vs, leH_ghost, leL_chunk, leXL_id, bnd_int, bnd_bool, bnd_val, bnd_nil, bnd_junk, bnd_vs, bnd_xp, bnd_agg, bnd_tup, bnd_ptr, bnd_own, bnd_elem, bnd_fn, bnd_iface, bnd_opt, bnd_row, bnd_rcell, bnd_imap, bnd_smp, le_row, le_rcell, le_imap, le_smp, leH1_smap, bndL_nil, bndL_cons, lenH_cons, lenH_nil, imp_self, implies_true, true_and, and_true]
      simp
    · rintro i ⟨hi, hia⟩
      dsimp only [encR, encK, enc1, go_sem, Option.bind, Option.map, List.append_nil, Nat.beq, List.cons_append, List.nil_append, List.append_eq, List.map_cons, List.map_nil, ite_self, reduceIte]
      simp only [true_and, and_true, imp_self, implies_true, decide_eq_true_eq, decide_eq_false_iff_not, Nat.reduceAdd, Nat.reduceLeDiff, Bool.not_not, reduceCtorEq, false_imp_iff, Bool.not_eq_true', Bool.not_eq_false', Bool.false_eq_true, and_self, forall_const, ne_eq, not_false_eq_true, Nat.reduceEqDiff, Int.toNat_natCast]
      refine ⟨fun hlt => ⟨⟨by omega, hlt⟩, fun hb => ?_, fun hb => ?_⟩, fun hge => ?_⟩
      · unfold farF at h
        rw [any_yes (l := h0) (j := i) (f := fun x => decide (100 < (x.v.length : Int))) (by omega) (decide_eq_true hb), Bool.or_true, Bool.true_or] at h
        exact ans_bool h
      · refine ⟨i + 1, ⟨by omega, fun j hj => by
          rcases Nat.lt_or_ge j i with h' | h'
          · exact hia j h'
          · obtain rfl : j = i := by omega
            exact hb⟩, by omega, ?_⟩
        simp only [leS_mk, leL_cons, leL_nil, le_junk, le_int, le_bool, le_nil, leLL_nil, leLL_cons, leH_cons, leH_nil, leH1_box, leH1_own, leH1_gone, le_vs, le_agg, le_tup, le_ptr, le_own, le_xp, le_fn, le_opt, le_val, le_elem, le_nil_own, le_nil_vs, leH_ghost, leL_chunk, leXL_id, bnd_int, bnd_bool, bnd_val, bnd_nil, bnd_junk, bnd_vs, bnd_xp, bnd_agg, bnd_tup, bnd_ptr, bnd_own, bnd_elem, bnd_fn, bnd_iface, bnd_opt, bnd_row, bnd_rcell, bnd_imap, bnd_smp, le_row, le_rcell, le_imap, le_smp, leH1_smap, bndL_nil, bndL_cons, lenH_cons, lenH_nil, imp_self, implies_true, true_and, and_true]
        exact ⟨by omega, w_succ (by omega : i < h0.length) (by omega)⟩
      · obtain rfl : i = h0.length := by omega
        refine Loop.keep [1, 0] Nat (fun i => [(4, .bool false), (6, .int .i64 i)]) (fun _ => []) [] (fun i => i ≤ l.length ∧ ∀ j, j < i → longW (l.getD j default) = false) (fun i => l.length - i) ?_ ?_
        · refine ⟨0, ⟨Nat.zero_le _, fun j hj => by omega⟩, ?_⟩
          dsimp only [go_sem, Option.bind, Option.map, List.append_nil, Nat.beq, List.cons_append, List.nil_append, List.append_eq, List.map_cons, List.map_nil, ite_self, reduceIte]
          simp only [leS_mk, leL_cons, leL_nil, le_junk, le_int, le_bool, le_nil, leLL_nil, leLL_cons, leH_cons, leH_nil, leH1_box, leH1_own, leH1_gone, le_vs, le_agg, le_tup, le_ptr, le_own, le_xp, le_fn, le_opt, le_val, le_elem, le_nil_own, le_nil_vs, leH_ghost, leL_chunk, leXL_id, bnd_int, bnd_bool, bnd_val, bnd_nil, bnd_junk, bnd_vs, bnd_xp, bnd_agg, bnd_tup, bnd_ptr, bnd_own, bnd_elem, bnd_fn, bnd_iface, bnd_opt, bnd_row, bnd_rcell, bnd_imap, bnd_smp, le_row, le_rcell, le_imap, le_smp, leH1_smap, bndL_nil, bndL_cons, lenH_cons, lenH_nil, imp_self, implies_true, true_and, and_true]
          simp
        · rintro i ⟨hi, hib⟩
          dsimp only [encR, encK, enc1, go_sem, Option.bind, Option.map, List.append_nil, Nat.beq, List.cons_append, List.nil_append, List.append_eq, List.map_cons, List.map_nil, ite_self, reduceIte]
          simp only [true_and, and_true, imp_self, implies_true, decide_eq_true_eq, decide_eq_false_iff_not, Nat.reduceAdd, Nat.reduceLeDiff, Bool.not_not, reduceCtorEq, false_imp_iff, Bool.not_eq_true', Bool.not_eq_false', Bool.false_eq_true, and_self, forall_const, ne_eq, not_false_eq_true, Nat.reduceEqDiff, Int.toNat_natCast]
          refine ⟨fun hlt => ⟨⟨by omega, hlt⟩, fun _ => ⟨by omega, hlt⟩, fun hb => ?_, fun hb => ?_⟩, fun hge => ?_⟩
          · unfold farF at h
            rw [any_yes (l := l) (j := i) (f := longW) (by omega) hb, Bool.or_true] at h
            exact ans_bool h
          · refine ⟨i + 1, ⟨by omega, lt_succ_all hib hb⟩, by omega, ?_⟩
            simp only [leS_mk, leL_cons, leL_nil, le_junk, le_int, le_bool, le_nil, leLL_nil, leLL_cons, leH_cons, leH_nil, leH1_box, leH1_own, leH1_gone, le_vs, le_agg, le_tup, le_ptr, le_own, le_xp, le_fn, le_opt, le_val, le_elem, le_nil_own, le_nil_vs, leH_ghost, leL_chunk, leXL_id, bnd_int, bnd_bool, bnd_val, bnd_nil, bnd_junk, bnd_vs, bnd_xp, bnd_agg, bnd_tup, bnd_ptr, bnd_own, bnd_elem, bnd_fn, bnd_iface, bnd_opt, bnd_row, bnd_rcell, bnd_imap, bnd_smp, le_row, le_rcell, le_imap, le_smp, leH1_smap, bndL_nil, bndL_cons, lenH_cons, lenH_nil, imp_self, implies_true, true_and, and_true]
            exact ⟨by omega, w_succ (by omega : i < l.length) (by omega)⟩
          · obtain rfl : i = l.length := by omega
            have e1 : h0.any (fun x => decide (100 < (x.v.length : Int))) = false := any_no fun j hj => decide_eq_false (hia j hj)
            unfold farF at h
            rw [hc, e1, any_no hib] at h
            exact ans_bool h
  · exact h.1.elim

def exH : Hal := [⟨false, [0, 2, 5]⟩, ⟨false, [2, 0, 1]⟩, ⟨false, [5, 1, 0]⟩]
def exW : List Wk := [⟨⟨#[103, 114, 101, 97, 116]⟩, 0, ⟨true, []⟩, 30⟩, ⟨⟨#[115, 119, 101, 108, 108]⟩, 2, ⟨false, [0]⟩, 20⟩, ⟨⟨#[114, 101, 101, 100, 115]⟩, 1, ⟨true, []⟩, 10⟩]
def encRT (x : Rw) : List SV := [.vs true x.z x.v.length 1 (fun k => enc1 (x.v.getD k default))]
def encKT (x : Wk) : List SV := [.val (.string x.nm), .int .i64 x.pl, .vs true x.af.z x.af.v.length 1 (fun k => enc1 (x.af.v.getD k default)), .int .i64 x.mi]
def exC : Ctr := { alias := false, of := fun l => match l with
  | [] => .fin (.tup [.agg [.vs true false 3 1 (fun k => encRT (exH.getD k default))], .vs true false 3 4 (fun k => encKT (exW.getD k default))]) []
  | _ => noC }
theorem ex_ok : exC.ok Try.prog 22 := by
  refine contract Try.func22 v22_is TM0_ok 200 exC fun args k h => ?_
  simp only [exC] at h
  split at h
  · have h : k _ [] := h
    refine ⟨[], trivial, ?_⟩
    dsimp only [v22, go_sem, Option.bind, Option.map, List.append_nil, Nat.beq, List.cons_append, List.nil_append, List.append_eq, List.map_cons, List.map_nil, ite_self, reduceIte]
    simp only [true_and, and_true, imp_self, implies_true, decide_eq_true_eq, decide_eq_false_iff_not, Nat.reduceAdd, Nat.reduceLeDiff, Bool.not_not, reduceCtorEq, false_imp_iff, Bool.not_eq_true', Bool.not_eq_false', Bool.false_eq_true, and_self, forall_const, ne_eq, not_false_eq_true, Nat.reduceEqDiff]
    refine ⟨by decide, by decide, by decide, by decide, rfl, by decide, rfl, rfl, ⟨⟨rfl, rfl, rfl⟩, by decide⟩, ans_le h ?_ (fun _ => by simp [freshS, freshL, encRT, encKT, enc1])⟩
    dsimp only [expo, go_sem, Option.bind, Option.map, List.append_nil, Nat.beq, List.cons_append, List.nil_append, List.append_eq, List.map_cons, List.map_nil, ite_self, reduceIte]
    simp only [leS_mk, leL_cons, leL_nil, le_junk, le_int, le_bool, le_nil, leLL_nil, leLL_cons, leH_cons, leH_nil, leH1_box, leH1_own, leH1_gone, le_vs, le_agg, le_tup, le_ptr, le_own, le_xp, le_fn, le_opt, le_val, le_elem, le_nil_own, le_nil_vs, leH_ghost, leL_chunk, leXL_id, bnd_int, bnd_bool, bnd_val, bnd_nil, bnd_junk, bnd_vs, bnd_xp, bnd_agg, bnd_tup, bnd_ptr, bnd_own, bnd_elem, bnd_fn, bnd_iface, bnd_opt, bnd_row, bnd_rcell, bnd_imap, bnd_smp, le_row, le_rcell, le_imap, le_smp, leH1_smap, bndL_nil, bndL_cons, lenH_cons, lenH_nil, imp_self, implies_true, true_and, and_true]
    refine ⟨fun k hk => ?_, fun k hk => ?_⟩
    · rcases k with _ | _ | _ | k
      · simp [encRT, exH, enc1, takeL, dropL, viewL, view, getH, leXL, leX, chunk]
        intro k hk
        rcases k with _ | _ | _ | k <;> first | omega | skip
        all_goals simp [addLo, takeL, dropL, viewL, view, leXL, leX]
      · simp [encRT, exH, enc1, takeL, dropL, viewL, view, getH, leXL, leX, chunk]
        intro k hk
        rcases k with _ | _ | _ | k <;> first | omega | skip
        all_goals simp [addLo, takeL, dropL, viewL, view, leXL, leX]
      · simp [encRT, exH, enc1, takeL, dropL, viewL, view, getH, leXL, leX, chunk]
        intro k hk
        rcases k with _ | _ | _ | k <;> first | omega | skip
        all_goals simp [addLo, takeL, dropL, viewL, view, leXL, leX]
      · omega
    · rcases k with _ | _ | _ | k
      · simp [encKT, exW, enc1, addLo, takeL, dropL, viewL, view, getH, leXL, leX, chunk]
      · simp [encKT, exW, enc1, addLo, takeL, dropL, viewL, view, getH, leXL, leX, chunk]
      · simp [encKT, exW, enc1, addLo, takeL, dropL, viewL, view, getH, leXL, leX, chunk]
      · omega
  · exact h.1.elim
end Go.Proofs.Yteioilioobichaa

/- Tuning, walked: the document's example. -/
/- Tuning, walked: the document's example. -/
set_option linter.all false
namespace Go.Proofs.Yteioilioobichaa
open Go Go.Vx
set_option maxRecDepth 100000
set_option maxHeartbeats 4000000

def v8 : VF := { ntmps := 124, res := [.tmp 0], body :=
 (.seq (.region [u1 0 .mov [.cn (.bool false)]])
 (.seq (.region [u1 19 (.call 22) [],
 u1 18 .mov [.tm 19],
 u1 20 (.ext 0) [.tm 18],
 u1 21 (.ext 1) [.tm 18],
 u1 1 (.alloc [.nil]) [],
 u0 (.store 1) [.tm 1, .tm 20],
 u1 2 .mov [.tm 21]])
 (.seq (.region [u1 23 (.load true 1) [.tm 1],
 u1 24 .mov [.tm 2],
 u1 25 (.call 16) [.tm 23, .tm 24, .cn (.int .i64 0)],
 u1 22 .mov [.tm 25],
 u1 26 (.ext 0) [.tm 22],
 u1 27 (.ext 1) [.tm 22],
 u1 28 (.ext 2) [.tm 22],
 u1 3 .mov [.tm 26],
 u1 4 .mov [.tm 27],
 u1 5 .mov [.tm 28]])
 (.seq (.region [u1 30 (.load true 1) [.tm 1],
 u1 31 .mov [.tm 2],
 u1 32 (.call 16) [.tm 30, .tm 31, .cn (.int .i64 1)],
 u1 29 .mov [.tm 32],
 u1 33 (.ext 0) [.tm 29],
 u1 34 (.ext 1) [.tm 29],
 u1 35 (.ext 2) [.tm 29],
 u1 6 .mov [.tm 33],
 u1 7 .mov [.tm 34],
 u1 8 .mov [.tm 35]])
 (.seq (.region [u1 37 (.load true 1) [.tm 1],
 u1 38 .mov [.tm 2],
 u1 39 (.buildSlice 1 3 [(.int .i64 0)] [(0, 1), (1, 1), (2, 1)]) [.cn (.int .i64 0), .cn (.int .i64 1), .cn (.int .i64 2)],
 u1 40 (.call 9) [.tm 37, .tm 38, .cn (.int .i64 0), .tm 39],
 u1 36 .mov [.tm 40],
 u1 41 (.ext 0) [.tm 36],
 u1 42 (.ext 1) [.tm 36],
 u1 9 .mov [.tm 41],
 u1 10 .mov [.tm 42]])
 (.seq (.region [u1 44 (.load true 1) [.tm 1],
 u1 45 .mov [.tm 2],
 u1 46 (.buildSlice 1 3 [(.int .i64 0)] [(0, 1), (1, 1), (2, 1)]) [.cn (.int .i64 1), .cn (.int .i64 0), .cn (.int .i64 2)],
 u1 47 (.call 9) [.tm 44, .tm 45, .cn (.int .i64 0), .tm 46],
 u1 43 .mov [.tm 47],
 u1 48 (.ext 0) [.tm 43],
 u1 49 (.ext 1) [.tm 43],
 u1 11 .mov [.tm 48],
 u1 12 .mov [.tm 49]])
 (.seq (.region [u1 51 (.load true 1) [.tm 1],
 u1 52 .mov [.tm 2],
 u1 53 (.buildSlice 1 1 [(.int .i64 0)] [(0, 1)]) [.cn (.int .i64 0)],
 u1 54 (.call 18) [.tm 51, .tm 52, .cn (.int .i64 0), .tm 53],
 u1 50 .mov [.tm 54],
 u1 55 (.ext 0) [.tm 50],
 u1 56 (.ext 1) [.tm 50],
 u1 57 (.ext 2) [.tm 50],
 u1 13 .mov [.tm 55],
 u1 14 .mov [.tm 56],
 u1 15 .mov [.tm 57]])
 (.seq (.region [u1 59 (.load true 1) [.tm 1],
 u1 60 .mov [.tm 2],
 u1 61 (.buildSlice 1 3 [(.int .i64 0)] [(0, 1), (1, 1), (2, 1)]) [.cn (.int .i64 0), .cn (.int .i64 2), .cn (.int .i64 1)],
 u1 62 (.call 11) [.tm 59, .tm 60, .tm 61, .cn (.int .i64 10)],
 u1 58 .mov [.tm 62],
 u1 63 (.ext 0) [.tm 58],
 u1 64 (.ext 1) [.tm 58],
 u1 16 .mov [.tm 63],
 u1 17 .mov [.tm 64]])
 (.seq (.seq (.region [u1 65 .mov [.tm 5],
 u1 66 (.cmp .neq) [.tm 65, .cn (.int .i64 0)],
 u1 67 .mov [.tm 66],
 u2 68 67 false .mov [.tm 8],
 u2 69 67 false (.cmp .neq) [.tm 68, .cn (.int .i64 0)],
 u1 70 .or [.tm 67, .tm 69],
 u1 71 .mov [.tm 70],
 u2 72 71 false .mov [.tm 10],
 u2 73 71 false (.cmp .neq) [.tm 72, .cn (.int .i64 0)],
 u1 74 .or [.tm 71, .tm 73],
 u1 75 .mov [.tm 74],
 u2 76 75 false .mov [.tm 12],
 u2 77 75 false (.cmp .neq) [.tm 76, .cn (.int .i64 4)],
 u1 78 .or [.tm 75, .tm 77],
 u1 79 .mov [.tm 78],
 u2 80 79 false .mov [.tm 15],
 u2 81 79 false (.cmp .neq) [.tm 80, .cn (.int .i64 0)],
 u1 82 .or [.tm 79, .tm 81],
 u1 83 .mov [.tm 82],
 u2 84 83 false .mov [.tm 17],
 u2 85 83 false (.cmp .neq) [.tm 84, .cn (.int .i64 0)],
 u1 86 .or [.tm 83, .tm 85],
 u1 87 .mov [.tm 86],
 u2 88 87 false .mov [.tm 4],
 u2 89 87 false (.cmp .neq) [.tm 88, .cn (.int .i64 3)],
 u1 90 .or [.tm 87, .tm 89],
 u1 91 .mov [.tm 90],
 u2 92 91 false .mov [.tm 7],
 u2 93 91 false (.cmp .neq) [.tm 92, .cn (.int .i64 5)],
 u1 94 .or [.tm 91, .tm 93],
 u1 95 .mov [.tm 94],
 u2 96 95 false .mov [.tm 9],
 u2 97 95 false (.cmp .neq) [.tm 96, .cn (.int .i64 6)],
 u1 98 .or [.tm 95, .tm 97],
 u1 99 .mov [.tm 98],
 u2 100 99 false .mov [.tm 14],
 u2 101 99 false (.cmp .neq) [.tm 100, .cn (.int .i64 3)],
 u1 102 .or [.tm 99, .tm 101]])
 (.cond (.tm 102) (.seq (.region [u1 0 .mov [.cn (.bool false)]])
 .ret)
  .skip))
 (.seq (.region [u1 103 .mov [.tm 3],
 u1 104 (.buildSlice 1 3 [(.int .i64 0)] [(0, 1), (1, 1), (2, 1)]) [.cn (.int .i64 0), .cn (.int .i64 2), .cn (.int .i64 1)],
 u1 105 (.call 20) [.tm 103, .tm 104],
 u1 106 .mov [.tm 105],
 u2 107 106 true .mov [.tm 6],
 u2 108 106 true (.buildSlice 1 3 [(.int .i64 0)] [(0, 1), (1, 1), (2, 1)]) [.cn (.int .i64 0), .cn (.int .i64 2), .cn (.int .i64 1)],
 u2 109 106 true (.call 20) [.tm 107, .tm 108],
 u1 110 .and [.tm 106, .tm 109],
 u1 111 .mov [.tm 110],
 u2 112 111 true .mov [.tm 13],
 u2 113 111 true (.buildSlice 1 2 [(.int .i64 0)] [(0, 1), (1, 1)]) [.cn (.int .i64 2), .cn (.int .i64 1)],
 u2 114 111 true (.call 20) [.tm 112, .tm 113],
 u1 115 .and [.tm 111, .tm 114],
 u1 116 .mov [.tm 115],
 u2 117 116 true .mov [.tm 16],
 u2 118 116 true (.build [(.int .i64 0), (.int .i64 0)] [(1, 1)]) [.cn (.int .i64 300)],
 u2 119 116 true (.build [(.int .i64 0), (.int .i64 0)] []) [],
 u2 120 116 true (.build [(.int .i64 0), (.int .i64 0)] [(1, 1)]) [.cn (.int .i64 200)],
 u2 121 116 true (.buildSlice 2 3 [(.int .i64 0), (.int .i64 0)] [(0, 2), (2, 2), (4, 2)]) [.tm 118, .tm 119, .tm 120],
 u2 122 116 true (.call 15) [.tm 117, .tm 121],
 u1 123 .and [.tm 116, .tm 122],
 u1 0 .mov [.tm 123]])
 .ret)))))))))) }
theorem v8_is : vfunc Try.prog Try.f8 = some v8 := by kernel_rfl

theorem exR1 : RestF exH exW 0 [] = ([0, 2, 1], 3, 0) := by decide +kernel
theorem exR2 : RestF exH exW 1 [] = ([0, 2, 1], 5, 0) := by decide +kernel
theorem exR3 : RestF exH exW 0 [0] = ([2, 1], 3, 0) := by decide +kernel
theorem exM1 : MovF exH exW 0 [0, 1, 2] = (6, 0) := by decide +kernel
theorem exM2 : MovF exH exW 0 [1, 0, 2] = (0, 4) := by decide +kernel
theorem exD1 : DriF exH exW 10 [0, 2, 1] = ([300, 0, 200], 0) := by decide +kernel
def TN0 : Env := { ct := fun n => match n with | 22 => some exC | 16 => some PlanC | 9 => some MovC | 18 => some RestC | 11 => some DriC | 20 => some samC | 15 => some sivC | _ => none, fn := fun _ => none, meth := fun _ _ => none }
theorem TN0_ct22 : TN0.ct 22 = some exC := rfl
theorem TN0_ct16 : TN0.ct 16 = some PlanC := rfl
theorem TN0_ct9 : TN0.ct 9 = some MovC := rfl
theorem TN0_ct18 : TN0.ct 18 = some RestC := rfl
theorem TN0_ct11 : TN0.ct 11 = some DriC := rfl
theorem TN0_ct20 : TN0.ct 20 = some samC := rfl
theorem TN0_ct15 : TN0.ct 15 = some sivC := rfl
theorem TN0_ok : EnvOk Try.prog TN0 := by
  refine ⟨fun f c h => ?_, fun f vf h => ?_, (fun _ _ _ h => by cases h), by kernel_rfl⟩
  · simp only [TN0] at h
    split at h
    · cases h; exact ⟨ex_ok, Try.f22, Try.func22, by kernel_rfl, by kernel_rfl⟩
    · cases h; exact ⟨Plan_ok, Try.f16, Try.func16, by kernel_rfl, by kernel_rfl⟩
    · cases h; exact ⟨Mov_ok, Try.f9, Try.func9, by kernel_rfl, by kernel_rfl⟩
    · cases h; exact ⟨Rest_ok, Try.f18, Try.func18, by kernel_rfl, by kernel_rfl⟩
    · cases h; exact ⟨Dri_ok, Try.f11, Try.func11, by kernel_rfl, by kernel_rfl⟩
    · cases h; exact ⟨sam_ok, Try.f20, Try.func20, by kernel_rfl, by kernel_rfl⟩
    · cases h; exact ⟨siv_ok, Try.f15, Try.func15, by kernel_rfl, by kernel_rfl⟩
    · cases h
  · cases h

theorem shown_ok : trueC.ok Try.prog 8 := by
  refine contract Try.func8 v8_is TN0_ok 400 trueC fun args k h => ?_
  simp only [trueC] at h
  split at h
  · have h : k (.bool true) [] := h
    refine ⟨[], trivial, ?_⟩
    dsimp only [v8, TN0_ct22, TN0_ct16, TN0_ct9, TN0_ct18, TN0_ct11, TN0_ct20, TN0_ct15, exC, PlanC, MovC, RestC, DriC, samC, sivC, go_sem, Option.bind, Option.map, List.append_nil, Nat.beq, List.cons_append, List.nil_append, List.append_eq, List.map_cons, List.map_nil, ite_self, reduceIte]
    simp only [true_and, and_true, imp_self, implies_true, decide_eq_true_eq, decide_eq_false_iff_not, Nat.reduceAdd, Nat.reduceLeDiff, Bool.not_not, reduceCtorEq, false_imp_iff, Bool.not_eq_true', Bool.not_eq_false', Bool.false_eq_true, and_self, forall_const, ne_eq, not_false_eq_true, Nat.reduceEqDiff]
    have kH : ∀ (hp : List HO) (j : List SV → List SV), lsP 1 encR 3 1 (fun k => viewL false hp j (encRT (exH.getD k default))) exH := fun hp j => ⟨rfl, rfl, fun k _ => by simp [encRT, encR, enc1, viewL, view, leXL, leX, andT]⟩
    have kW : ∀ (hp : List HO) (j : List SV → List SV), lsP 4 encK 3 4 (fun k => viewL false hp j (encKT (exW.getD k default))) exW := fun hp j => ⟨rfl, rfl, fun k _ => by simp [encKT, encK, enc1, viewL, view, leXL, leX, andT]⟩
    have kB : (exH.length ≤ 1000000000000 ∧ exW.length ≤ 1000000000000) ∧ (∀ x, x ∈ exH → x.v.length ≤ 1000000000000) ∧ okW exW := ⟨by decide, by decide, by unfold okW; decide⟩
    have k3 : ∀ (hp : List HO) (j : List SV → List SV) (a b c : Int), lsP 1 enc1 3 1 (fun k => viewL false hp j (takeL 1 (dropL (k * 1) [SV.int IntKind.i64 a, SV.int IntKind.i64 b, SV.int IntKind.i64 c]))) [a, b, c] := fun hp j a b c => ⟨rfl, rfl, fun k hk => by
      rcases k with _ | _ | _ | k
      · simp [enc1, takeL, dropL, viewL, view, leXL, leX]
      · simp [enc1, takeL, dropL, viewL, view, leXL, leX]
      · simp [enc1, takeL, dropL, viewL, view, leXL, leX]
      · omega⟩
    have k1 : ∀ (hp : List HO) (j : List SV → List SV) (a : Int), lsP 1 enc1 1 1 (fun k => viewL false hp j (takeL 1 (dropL (k * 1) [SV.int IntKind.i64 a]))) [a] := fun hp j a => ⟨rfl, rfl, fun k hk => by
      rcases k with _ | k
      · simp [enc1, takeL, dropL, viewL, view, leXL, leX]
      · omega⟩
    refine ⟨by decide, by decide, exH, exW, ⟨kH _ _, kW _ _, kB⟩, fun z1 => ⟨by decide, by decide, by decide, exH, exW, ⟨kH _ _, kW _ _, kB⟩, fun z2 => ⟨by decide, by decide, by decide, Nat.one_pos, exH, exW, [0, 1, 2], ⟨kH _ _, kW _ _, k3 _ _ _ _ _, kB, by decide⟩, by decide, by decide, Nat.one_pos, exH, exW, [1, 0, 2], ⟨kH _ _, kW _ _, k3 _ _ _ _ _, kB, by decide⟩, by decide, by decide, Nat.one_pos, exH, exW, [0], ⟨kH _ _, kW _ _, k1 _ _ _, kB, by decide⟩, fun z3 => ?_⟩⟩⟩
    refine ⟨by decide, by decide, by decide, Nat.one_pos, exH, exW, [0, 2, 1], ⟨kH _ _, kW _ _, k3 _ _ _ _ _, kB, by decide⟩, fun z4 => ?_⟩
    simp only [exR1, exR2, exR3, exM1, exM2, exD1]
    have kV : ∀ (hp : List HO) (j : List SV → List SV) (L : List Int), lsP 1 enc1 L.length 1 (fun k => viewL false hp j (enc1 (L.getD k default))) L := fun hp j L => ⟨rfl, rfl, fun k _ => by simp [enc1, viewL, view, leXL, leX]⟩
    have k2 : ∀ (hp : List HO) (j : List SV → List SV) (a b : Int), lsP 1 enc1 2 1 (fun k => viewL false hp j (takeL 1 (dropL (k * 1) [SV.int IntKind.i64 a, SV.int IntKind.i64 b]))) [a, b] := fun hp j a b => ⟨rfl, rfl, fun k hk => by
      rcases k with _ | _ | k
      · simp [enc1, takeL, dropL, viewL, view, leXL, leX]
      · simp [enc1, takeL, dropL, viewL, view, leXL, leX]
      · omega⟩
    refine ⟨by decide, by decide, fun hb => (by simp at hb), fun _ => ⟨Nat.one_pos, [0, 2, 1], [0, 2, 1], ⟨kV _ _ _, k3 _ _ _ _ _, by decide⟩, fun _ => ⟨Nat.one_pos, [0, 2, 1], [0, 2, 1], fun _ => ⟨kV _ _ _, k3 _ _ _ _ _, by decide⟩, fun _ => ⟨Nat.one_pos, [2, 1], [2, 1], fun _ => ⟨kV _ _ _, k2 _ _ _ _, by decide⟩, fun _ => ⟨by decide, [300, 0, 200], [300, 0, 200], fun _ => ⟨⟨rfl, rfl, fun k hk => ?_⟩, ⟨rfl, rfl, fun k hk => ?_⟩, by decide⟩, ans_bool (by simpa using h)⟩, fun hb => (by simp at hb)⟩, fun hb => (by simp at hb)⟩, fun hb => (by simp at hb)⟩⟩
    · exact leXL_self _
    · rcases k with _ | _ | _ | k
      · simp [enc0, takeL, dropL, viewL, view, leXL, leX]
      · simp [enc0, takeL, dropL, viewL, view, leXL, leX]
      · simp [enc0, takeL, dropL, viewL, view, leXL, leX]
      · exact absurd hk (by omega)
  · exact h.1.elim
end Go.Proofs.Yteioilioobichaa

/- Tuning: the laws, walked. -/
/- Tuning: the laws, walked. -/
set_option linter.all false
namespace Go.Proofs.Yteioilioobichaa
open Go Go.Vx
set_option maxRecDepth 100000
set_option maxHeartbeats 4000000

def v3 : VF := { ntmps := 105, res := [.tmp 2], body :=
 (.seq (.region [u1 1 .box [.tm 0],
 u1 2 .mov [.cn (.bool false)]])
 (.seq (.seq (.region [u1 11 (.fieldAddr 0) [.tm 1],
 u1 12 (.load true 1) [.tm 11],
 u1 13 (.fieldAddr 1) [.tm 1],
 u1 14 (.load false 1) [.tm 13],
 u1 15 (.call 7) [.tm 12, .tm 14],
 u1 16 .mov [.tm 15],
 u2 17 16 false (.fieldAddr 3) [.tm 1],
 u2 18 16 false (.load false 1) [.tm 17],
 u2 19 16 false .len [.tm 18],
 u2 20 16 false (.cmp .gtr) [.tm 19, .cn (.int .i64 100)],
 u1 21 .or [.tm 16, .tm 20]])
 (.cond (.tm 21) (.seq (.region [u1 22 (.call 8) [],
 u1 2 .mov [.tm 22]])
 .ret)
  .skip))
 (.seq (.region [u1 24 (.fieldAddr 0) [.tm 1],
 u1 25 (.load true 1) [.tm 24],
 u1 26 (.fieldAddr 1) [.tm 1],
 u1 27 (.load false 1) [.tm 26],
 u1 28 (.fieldAddr 2) [.tm 1],
 u1 29 (.load false 1) [.tm 28],
 u1 30 (.fieldAddr 3) [.tm 1],
 u1 31 (.load false 1) [.tm 30],
 u1 32 (.call 9) [.tm 25, .tm 27, .tm 29, .tm 31],
 u1 23 .mov [.tm 32],
 u1 33 (.ext 0) [.tm 23],
 u1 34 (.ext 1) [.tm 23],
 u1 3 .mov [.tm 33],
 u1 4 .mov [.tm 34]])
 (.seq (.region [u1 36 (.fieldAddr 0) [.tm 1],
 u1 37 (.load true 1) [.tm 36],
 u1 38 (.fieldAddr 1) [.tm 1],
 u1 39 (.load false 1) [.tm 38],
 u1 40 (.fieldAddr 2) [.tm 1],
 u1 41 (.load false 1) [.tm 40],
 u1 42 (.fieldAddr 3) [.tm 1],
 u1 43 (.load false 1) [.tm 42],
 u1 44 (.call 10) [.tm 37, .tm 39, .tm 41, .tm 43],
 u1 35 .mov [.tm 44],
 u1 45 (.ext 0) [.tm 35],
 u1 46 (.ext 1) [.tm 35],
 u1 5 .mov [.tm 45],
 u1 6 .mov [.tm 46]])
 (.seq (.region [u1 48 (.fieldAddr 0) [.tm 1],
 u1 49 (.load true 1) [.tm 48],
 u1 50 (.fieldAddr 1) [.tm 1],
 u1 51 (.load false 1) [.tm 50],
 u1 52 (.fieldAddr 3) [.tm 1],
 u1 53 (.load false 1) [.tm 52],
 u1 54 (.fieldAddr 4) [.tm 1],
 u1 55 (.load false 1) [.tm 54],
 u1 56 (.call 11) [.tm 49, .tm 51, .tm 53, .tm 55],
 u1 47 .mov [.tm 56],
 u1 57 (.ext 0) [.tm 47],
 u1 58 (.ext 1) [.tm 47],
 u1 7 .mov [.tm 57],
 u1 8 .mov [.tm 58]])
 (.seq (.region [u1 60 (.fieldAddr 0) [.tm 1],
 u1 61 (.load true 1) [.tm 60],
 u1 62 (.fieldAddr 1) [.tm 1],
 u1 63 (.load false 1) [.tm 62],
 u1 64 (.fieldAddr 3) [.tm 1],
 u1 65 (.load false 1) [.tm 64],
 u1 66 (.fieldAddr 4) [.tm 1],
 u1 67 (.load false 1) [.tm 66],
 u1 68 (.call 12) [.tm 61, .tm 63, .tm 65, .tm 67],
 u1 59 .mov [.tm 68],
 u1 69 (.ext 0) [.tm 59],
 u1 70 (.ext 1) [.tm 59],
 u1 9 .mov [.tm 69],
 u1 10 .mov [.tm 70]])
 (.seq (.draw [] [w1 71 (.fieldAddr 0) [.tm 1],
 w1 72 (.load true 1) [.tm 71],
 w1 73 (.fieldAddr 1) [.tm 1],
 w1 74 (.load false 1) [.tm 73],
 w1 76 (.fieldAddr 0) [.tm 1],
 w1 77 (.load true 1) [.tm 76],
 w1 78 (.fieldAddr 1) [.tm 1],
 w1 79 (.load false 1) [.tm 78],
 w1 75 (.call 13) [.tm 72, .tm 74],
 w1 80 (.call 14) [.tm 77, .tm 79],
 w1 81 (.cmp .eql) [.tm 75, .tm 80],
 w1 82 .mov [.tm 81],
 ⟨u2 83 82 true .mov [.tm 3], []⟩,
 ⟨u2 84 82 true .mov [.tm 5], []⟩,
 ⟨u2 85 82 true (.cmp .eql) [.tm 83, .tm 84], []⟩,
 w1 86 .and [.tm 82, .tm 85],
 w1 87 .mov [.tm 86],
 ⟨u2 88 87 true .mov [.tm 4], []⟩,
 ⟨u2 89 87 true .mov [.tm 6], []⟩,
 ⟨u2 90 87 true (.cmp .eql) [.tm 88, .tm 89], []⟩,
 w1 91 .and [.tm 87, .tm 90],
 w1 92 .mov [.tm 91],
 ⟨u2 93 92 true .mov [.tm 7], []⟩,
 ⟨u2 94 92 true .mov [.tm 9], []⟩,
 ⟨u2 95 92 true (.call 15) [.tm 93, .tm 94], []⟩,
 w1 96 .and [.tm 92, .tm 95],
 w1 97 .mov [.tm 96],
 ⟨u2 98 97 true .mov [.tm 8], []⟩,
 ⟨u2 99 97 true .mov [.tm 10], []⟩,
 ⟨u2 100 97 true (.cmp .eql) [.tm 98, .tm 99], []⟩,
 w1 101 .and [.tm 97, .tm 100],
 w1 102 .mov [.tm 101],
 ⟨u2 103 102 true (.call 8) [], []⟩,
 w1 104 .and [.tm 102, .tm 103],
 w1 2 .mov [.tm 104]])
 .ret))))))) }
def shRw : List Sh := [.slice [.int .i64]]
def shWk : List Sh := [.str, .int .i64, .slice [.int .i64], .int .i64]
def shSe : List Sh := [.slice shRw, .slice shWk, .int .i64, .slice [.int .i64], .int .i64]
theorem i_of {c : List SV} (h : okSL [.int .i64] c) : ∃ p : Int, c = enc1 p := by
  obtain ⟨_, _, rfl, ⟨n1, rfl, _⟩, e1⟩ := okSL_cons_inv h
  cases okSL_nil_inv e1
  exact ⟨n1, rfl⟩
theorem is_of {v : SV} (h : okS (.slice [.int .i64]) v) : ∃ (z : Bool) (l : List Int), l.length ≤ maxLen ∧ leX v (.vs false z l.length 1 (fun k => enc1 (l.getD k default))) :=
  slice_of (fun c hc => let ⟨p, h⟩ := i_of hc; ⟨p, by rw [h]; exact leXL_self _⟩) h
theorem rw_of {c : List SV} (h : okSL shRw c) : ∃ x : Rw, leXL c (encR x) := by
  obtain ⟨_, _, rfl, h1, e1⟩ := okSL_cons_inv h
  cases okSL_nil_inv e1
  obtain ⟨z, l, _, hl⟩ := is_of h1
  exact ⟨⟨z, l⟩, hl, trivial⟩
theorem wk_of {c : List SV} (h : okSL shWk c) : ∃ x : Wk, leXL c (encK x) := by
  obtain ⟨_, _, rfl, ⟨b, rfl, _⟩, e1⟩ := okSL_cons_inv h
  obtain ⟨_, _, rfl, ⟨n2, rfl, _⟩, e2⟩ := okSL_cons_inv e1
  obtain ⟨_, _, rfl, h3, e3⟩ := okSL_cons_inv e2
  obtain ⟨_, _, rfl, ⟨n4, rfl, _⟩, e4⟩ := okSL_cons_inv e3
  cases okSL_nil_inv e4
  obtain ⟨z, l, _, hl⟩ := is_of h3
  exact ⟨⟨b, n2, ⟨z, l⟩, n4⟩, by simp [leX], ⟨rfl, rfl⟩, hl, ⟨rfl, rfl⟩, trivial⟩
theorem rws_of {v : SV} (h : okS (.slice shRw) v) : ∃ (z : Bool) (l : Hal), l.length ≤ maxLen ∧ leX v (.vs false z l.length 1 (fun k => encR (l.getD k default))) := slice_of (fun c hc => rw_of hc) h
theorem wks_of {v : SV} (h : okS (.slice shWk) v) : ∃ (z : Bool) (l : List Wk), l.length ≤ maxLen ∧ leX v (.vs false z l.length 4 (fun k => encK (l.getD k default))) := slice_of (fun c hc => wk_of hc) h
def encSe (zh zl zo : Bool) (h : Hal) (l : List Wk) (p : Int) (o : List Int) (r : Int) : List SV := [.vs false zh h.length 1 (fun k => encR (h.getD k default)), .vs false zl l.length 4 (fun k => encK (l.getD k default)), .int .i64 p, .vs false zo o.length 1 (fun k => enc1 (o.getD k default)), .int .i64 r]
theorem se_of {c : List SV} (h : okSL shSe c) : ∃ (zh zl zo : Bool) (h : Hal) (l : List Wk) (p : Int) (o : List Int) (r : Int), leXL c (encSe zh zl zo h l p o r) := by
  obtain ⟨_, _, rfl, h1, e1⟩ := okSL_cons_inv h
  obtain ⟨_, _, rfl, h2, e2⟩ := okSL_cons_inv e1
  obtain ⟨_, _, rfl, ⟨p, rfl, _⟩, e3⟩ := okSL_cons_inv e2
  obtain ⟨_, _, rfl, h4, e4⟩ := okSL_cons_inv e3
  obtain ⟨_, _, rfl, ⟨r, rfl, _⟩, e5⟩ := okSL_cons_inv e4
  cases okSL_nil_inv e5
  obtain ⟨zh, h, _, g1⟩ := rws_of h1
  obtain ⟨zl, l, _, g2⟩ := wks_of h2
  obtain ⟨zo, o, _, g3⟩ := is_of h4
  exact ⟨zh, zl, zo, h, l, p, o, r, g1, g2, ⟨rfl, rfl⟩, g3, ⟨rfl, rfl⟩, trivial⟩
theorem far_no {h : Hal} {l : List Wk} (hf : farF h l = false) : (h.length ≤ 1000000000000 ∧ l.length ≤ 1000000000000) ∧ (∀ x ∈ h, x.v.length ≤ 1000000000000) ∧ okW l := by
  unfold farF at hf
  simp only [Bool.or_eq_false_iff, decide_eq_false_iff_not] at hf
  obtain ⟨⟨⟨h1, h2⟩, h3⟩, h4⟩ := hf
  rw [List.any_eq_false] at h3 h4
  refine ⟨⟨by omega, by omega⟩, fun x hx => ?_, fun x hx => ?_⟩
  · have := h3 x hx
    simp only [decide_eq_true_eq] at this
    omega
  · have := h4 x hx
    unfold longW at this
    simp only [Bool.or_eq_true, decide_eq_true_eq] at this
    omega
theorem vH (hp : List HO) (j : List SV → List SV) (h : Hal) : lsP 1 encR h.length 1 (fun k => viewL false hp j (encR (h.getD k default))) h := ⟨rfl, rfl, fun k _ => by simp [encR, enc1, viewL, view, leXL, leX, andT]⟩
theorem vW (hp : List HO) (j : List SV → List SV) (h : List Wk) : lsP 4 encK h.length 4 (fun k => viewL false hp j (encK (h.getD k default))) h := ⟨rfl, rfl, fun k _ => by simp [encK, enc1, viewL, view, leXL, leX, andT]⟩
end Go.Proofs.Yteioilioobichaa

/- Tuning, in plain Lean: what the laws need of best orders. -/
/- Tuning, in plain Lean: what the laws need of best orders. -/
set_option linter.all false
namespace Go.Proofs.Yteioilioobichaa
open Go Go.Vx

theorem plan_yes {h : Hal} {l : List Wk} {p : Int} (hc : chkF h l = 0) (h0 : 0 ≤ p) (h1 : p < (h.length : Int)) : RestF h l p [] = (pathF h l 0 p, (Few h l 0 p).1, 0) := by
  unfold RestF
  rw [if_neg (by omega)]
  unfold befF
  rw [if_neg (by omega)]
  show (if needB l 0 [] = true then _ else _) = _
  exact if_pos rfl
/-- The best order is an order, with the moves that are told. -/
theorem path_ord {h : Hal} {l : List Wk} {p : Int} (hc : chkF h l = 0) : ordF l (pathF h l 0 p) = true ∧ (movF h l p (pathF h l 0 p)).1 = (Few h l 0 p).1 ∧ (pathF h l 0 p).length = l.length := by
  obtain ⟨c1, c2, c3, c4, c5⟩ := chk_facts hc
  obtain ⟨t, t1, t2, t3, t4⟩ := path_valid (h := h) (aft_small (aft_of_good c3) c2) c5 l.length 0 p (leftN_none _)
  refine ⟨?_, by rw [movF_cst]; exact t3, t4⟩
  unfold ordF
  rw [ordS_zero, t1, t4]
  simp
end Go.Proofs.Yteioilioobichaa

/- Tuning: the law of the fewest moves, walked. -/
/- Tuning: the law of the fewest moves, walked. -/
set_option linter.all false
namespace Go.Proofs.Yteioilioobichaa
open Go Go.Vx
set_option maxRecDepth 100000
set_option maxHeartbeats 4000000

end Go.Proofs.Yteioilioobichaa

/- Tuning, in plain Lean: when some works are done; with a work less to wait for. -/
/- Tuning, in plain Lean: when some works are done; with a work less to wait for. -/
set_option linter.all false
namespace Go.Proofs.Yteioilioobichaa
open Go Go.Vx

theorem ord_dGo {l : List Wk} : ∀ (o : List Int) (s t : Nat), ordS l s o = some t → o.foldl (fun m a => m.bind fun s => dStep l s a) (some s) = some t
  | [], _, _, h => h
  | a :: o, s, t, h => by
    obtain ⟨⟨h0, h1⟩, h2, h3⟩ := ordS_cons h
    show o.foldl (fun m a => m.bind fun s => dStep l s a) (dStep l s a) = some t
    rw [dStep_yes h0 h1 (may_bit h2)]
    exact ord_dGo o _ t h3
theorem ord_need {l : List Wk} (hsm : ∀ x ∈ l, smallL x.af.v) : ∀ (o : List Int) (s t : Nat), ordS l s o = some t → (∀ j, s.testBit j = true → t.testBit j = true) ∧ ∀ a ∈ o, t &&& maskF (l.getD a.toNat default).af.v = maskF (l.getD a.toNat default).af.v
  | [], s, t, h => by
    have h : some s = some t := h
    cases h
    exact ⟨fun _ h => h, fun a ha => by simp at ha⟩
  | a :: o, s, t, h => by
    obtain ⟨⟨h0, h1⟩, h2, h3⟩ := ordS_cons h
    obtain ⟨i1, i2⟩ := ord_need hsm o _ t h3
    have hs : ∀ j, s.testBit j = true → t.testBit j = true := fun j hj => i1 j (by rw [Nat.testBit_or, hj, Bool.true_or])
    refine ⟨hs, fun b hb => ?_⟩
    rcases List.mem_cons.1 hb with rfl | hb
    · have hm := hsm _ (getD_mem (by omega : b.toNat < l.length))
      rw [may_iff hm, Bool.and_eq_true, List.all_eq_true] at h2
      exact (need_iff hm).2 fun c hc => hs _ (h2.2 c hc)
    · exact i2 b hb
/-- Rest, when the first works of the best order are done. -/
theorem rest_take {h : Hal} {l : List Wk} {p : Int} (hc : chkF h l = 0) (p0 : 0 ≤ p) (p1 : p < (h.length : Int)) {k : Nat} (hk : k ≤ (pathF h l 0 p).length) :
    RestF h l (movF h l p ((pathF h l 0 p).take k)).2 ((pathF h l 0 p).take k) = ((pathF h l 0 p).drop k, (Few h l 0 p).1 - (movF h l p ((pathF h l 0 p).take k)).1, 0) := by
  obtain ⟨c1, c2, c3, c4, c5⟩ := chk_facts hc
  have hsm := aft_small (aft_of_good c3) c2
  obtain ⟨t, t1, t2, t3⟩ := path_take (h := h) (l := l) k 0 p hk
  obtain ⟨q1, q2, q3⟩ := path_ord (h := h) (l := l) (p := p) hc
  obtain ⟨r1, hor⟩ := ord_rng q1
  have hrng := mov_rng c3 p0 p1 hor k hk
  have hd : dGo l ((pathF h l 0 p).take k) = some t := ord_dGo _ _ _ t1
  have hn := (ord_need hsm _ _ _ t1).2
  have hne : needB l t ((pathF h l 0 p).take k) = true := by
    unfold needB
    rw [List.all_eq_true]
    intro a ha
    exact decide_eq_true (hn a ha)
  have hb : befF h l (movF h l p ((pathF h l 0 p).take k)).2 ((pathF h l 0 p).take k) = some t := by
    unfold befF
    rw [if_neg (by omega), hd]
  unfold RestF
  rw [if_neg (by omega), hb]
  simp only
  rw [if_pos hne, t2, movF_cst]
  have e : (movF h l p ((pathF h l 0 p).take k)).2 = (((pathF h l 0 p).take k).foldl (fun s a => (s.1 + costF h s.2 (plF l a), plF l a)) (0, p)).2 := rfl
  rw [e]
  refine Prod.ext rfl (Prod.ext ?_ rfl)
  simp only
  omega

/-! ### One less to wait for -/

structure Less (l l' : List Wk) : Prop where
  len : l'.length = l.length
  nm : ∀ j, (l'.getD j default).nm = (l.getD j default).nm
  pl : ∀ j, (l'.getD j default).pl = (l.getD j default).pl
  mi : ∀ j, (l'.getD j default).mi = (l.getD j default).mi
  af : ∀ j, (l'.getD j default).af.v = (l.getD j default).af.v ∨ (l'.getD j default).af.v = (l.getD j default).af.v.tail
theorem tail_getD {l : List Int} {k : Nat} : l.tail.getD k default = l.getD (k + 1) default := by
  cases l with
  | nil => rfl
  | cons a l => rfl
theorem afAll_tail {many i : Int} {l : List Int} (h : afAll many i l l.length = true) : afAll many i l.tail l.tail.length = true := by
  unfold afAll at h ⊢
  rw [List.all_eq_true] at h ⊢
  intro k hk
  have hk := List.mem_range.1 hk
  rw [List.length_tail] at hk
  have h1 := h (k + 1) (List.mem_range.2 (by omega))
  unfold afOk at h1 ⊢
  rw [tail_getD]
  rw [Bool.and_eq_true, Bool.and_eq_true] at h1
  rw [Bool.and_eq_true, Bool.and_eq_true]
  refine ⟨h1.1, h1.2.1, ?_⟩
  have h2 := h1.2.2
  rw [decide_eq_false (by omega : ¬ k + 1 = 0), Bool.false_or] at h2
  by_cases hk0 : k = 0
  · rw [decide_eq_true hk0]; rfl
  · rw [tail_getD, show k - 1 + 1 = k + 1 - 1 by omega, h2, Bool.or_true]
theorem less_good {h : Hal} {l l' : List Wk} (hl : Less l l') (hg : goodF h l = true) : goodF h l' = true := by
  unfold goodF at hg ⊢
  rw [Bool.and_eq_true, List.all_eq_true] at hg ⊢
  refine ⟨hg.1, fun i hi => ?_⟩
  rw [hl.len] at hi ⊢
  have := hg.2 i hi
  rw [wkF_eq, Bool.and_eq_true] at this ⊢
  refine ⟨?_, ?_⟩
  · have h1 := this.1
    unfold wkB at h1 ⊢
    rw [hl.nm, hl.pl, hl.mi]
    exact h1
  · rcases hl.af i with e | e
    · rw [e]; exact this.2
    · rw [e]; exact afAll_tail this.2
theorem setF_map {l : List Wk} : setF l = (l.map nameL).foldl addK [] := by
  unfold setF; rw [List.foldl_map]
theorem less_set {l l' : List Wk} (hl : Less l l') : setF l' = setF l := by
  rw [setF_map, setF_map]
  congr 1
  refine List.ext_getElem (by simp [hl.len]) fun i h1 h2 => ?_
  simp only [List.length_map] at h1 h2
  rw [List.getElem_map, List.getElem_map]
  have := hl.nm i
  rw [List.getD_eq_getElem?_getD, List.getD_eq_getElem?_getD, List.getElem?_eq_getElem h1, List.getElem?_eq_getElem h2] at this
  unfold nameL
  exact congrArg (fun b : ByteArray => b.data.toList) this
theorem less_may {l l' : List Wk} (hl : Less l l') (hsm : ∀ x ∈ l, smallL x.af.v) (hsm' : ∀ x ∈ l', smallL x.af.v) {s s' i : Nat} (hi : i < l.length) (hs : ∀ j, s.testBit j = true → s'.testBit j = true) (h0 : s'.testBit i = false) (h : mayF l s i = true) : mayF l' s' i = true := by
  rw [may_iff (hsm _ (getD_mem hi)), Bool.and_eq_true, List.all_eq_true] at h
  rw [may_iff (hsm' _ (getD_mem (by rw [hl.len]; exact hi))), Bool.and_eq_true, List.all_eq_true]
  refine ⟨by rw [h0]; rfl, fun a ha => hs _ (h.2 a ?_)⟩
  rcases hl.af i with e | e
  · rw [e] at ha; exact ha
  · rw [e] at ha; exact List.mem_of_mem_tail ha
theorem less_part {l l' : List Wk} (hl : Less l l') (hsm : ∀ x ∈ l, smallL x.af.v) (hsm' : ∀ x ∈ l', smallL x.af.v) {s s' : Nat} (hs : ∀ j, s.testBit j = true → s'.testBit j = true) : ∀ i, i ≤ l.length → ∀ j, (partF l s i).testBit j = true → (partF l' s' i).testBit j = true
  | 0, _, j, hj => hs j hj
  | i + 1, hi, j, hj => by
    have ih := less_part hl hsm hsm' hs i (by omega)
    have hi' : i < l.length := by omega
    have h1 : (stepF l (partF l s i) i).testBit j = true := hj
    show (stepF l' (partF l' s' i) i).testBit j = true
    rw [step_bit (hsm _ (getD_mem hi'))] at h1
    rw [step_bit (hsm' _ (getD_mem (by rw [hl.len]; exact hi')))]
    by_cases hji : j = i
    · rw [if_pos hji] at h1 ⊢
      rw [Bool.or_eq_true, List.all_eq_true] at h1
      rw [Bool.or_eq_true, List.all_eq_true]
      rcases h1 with h1 | h1
      · exact .inl (ih _ h1)
      · refine .inr fun a ha => ih _ (h1 a ?_)
        rcases hl.af i with e | e
        · rw [e] at ha; exact ha
        · rw [e] at ha; exact List.mem_of_mem_tail ha
    · rw [if_neg hji] at h1 ⊢
      exact ih _ h1
theorem less_done {l l' : List Wk} (hl : Less l l') (hsm : ∀ x ∈ l, smallL x.af.v) (hsm' : ∀ x ∈ l', smallL x.af.v) : ∀ r j, (doneF l r).testBit j = true → (doneF l' r).testBit j = true
  | 0, _, hj => hj
  | r + 1, j, hj => by
    show (partF l' (doneF l' r) l'.length).testBit j = true
    rw [hl.len]
    exact less_part hl hsm hsm' (less_done hl hsm hsm' r) l.length (Nat.le_refl _) j hj
theorem less_chk {h : Hal} {l l' : List Wk} (hl : Less l l') (hc : chkF h l = 0) : chkF h l' = 0 := by
  obtain ⟨c1, c2, c3, c4, c5⟩ := chk_facts hc
  have g := less_good hl c3
  have hsm := aft_small (aft_of_good c3) c2
  have hsm' := aft_small (aft_of_good g) (by rw [hl.len]; exact c2)
  have hd : doneF l' l'.length = 2 ^ l'.length - 1 := (full_iff (doneF_lt _)).2 fun j hj => by
    rw [hl.len] at hj ⊢
    exact less_done hl hsm hsm' _ j ((full_iff (doneF_lt _)).1 c5 j hj)
  unfold chkF
  rw [if_neg (by rw [hl.len]; omega), if_neg (by rw [g]; simp), if_neg (by rw [less_set hl, hl.len]; omega), if_neg (by rw [hd]; simp)]
theorem less_ordS {l l' : List Wk} (hl : Less l l') (hsm : ∀ x ∈ l, smallL x.af.v) (hsm' : ∀ x ∈ l', smallL x.af.v) : ∀ (o : List Int) (s t : Nat), ordS l s o = some t → ordS l' s o = some t
  | [], _, _, h => h
  | a :: o, s, t, h => by
    obtain ⟨⟨h0, h1⟩, h2, h3⟩ := ordS_cons h
    rw [ordS_cons' h0 (by rw [hl.len]; exact h1) (less_may hl hsm hsm' (by omega) (fun _ h => h) (may_bit h2) h2)]
    exact less_ordS hl hsm hsm' o _ t h3
theorem less_cst {h : Hal} {l l' : List Wk} (hl : Less l l') : ∀ (o : List Int) (p : Int), cstF h l' p o = cstF h l p o
  | [], _ => rfl
  | a :: o, p => by
    have e : plF l' a = plF l a := hl.pl _
    simp only [cstF]
    rw [e, less_cst hl o]
theorem less_few {h : Hal} {l l' : List Wk} (hl : Less l l') (hc : chkF h l = 0) (p : Int) : (Few h l' 0 p).1 ≤ (Few h l 0 p).1 := by
  obtain ⟨c1, c2, c3, c4, c5⟩ := chk_facts hc
  have g := less_good hl c3
  have hsm := aft_small (aft_of_good c3) c2
  have hsm' := aft_small (aft_of_good g) (by rw [hl.len]; exact c2)
  obtain ⟨t, t1, t2, t3, t4⟩ := path_valid (h := h) hsm c5 l.length 0 p (leftN_none _)
  have := (low_bound (h := h) (l := l') (pathF h l 0 p) 0 t p (less_ordS hl hsm hsm' _ _ _ t1) (by rw [hl.len]; exact t2)).1
  rw [less_cst hl, t3] at this
  exact this
end Go.Proofs.Yteioilioobichaa

/- Tuning: the law of what is left, walked. -/
/- Tuning: the law of what is left, walked. -/
set_option linter.all false
namespace Go.Proofs.Yteioilioobichaa
open Go Go.Vx
set_option maxRecDepth 100000
set_option maxHeartbeats 4000000

def v6 : VF := { ntmps := 207, res := [.tmp 6], body :=
 (.seq (.region [u1 3 .box [.tm 0],
 u1 6 .mov [.cn (.bool false)]])
 (.seq (.seq (.region [u1 19 (.fieldAddr 0) [.tm 3],
 u1 20 (.load true 1) [.tm 19],
 u1 21 (.fieldAddr 1) [.tm 3],
 u1 22 (.load false 1) [.tm 21],
 u1 23 (.call 7) [.tm 20, .tm 22],
 u1 24 .mov [.tm 23],
 u2 25 24 false (.fieldAddr 0) [.tm 3],
 u2 26 24 false (.load true 1) [.tm 25],
 u2 27 24 false (.fieldAddr 1) [.tm 3],
 u2 28 24 false (.load false 1) [.tm 27],
 u2 29 24 false (.call 14) [.tm 26, .tm 28],
 u2 30 24 false (.cmp .neq) [.tm 29, .cn (.int .i64 0)],
 u1 31 .or [.tm 24, .tm 30],
 u1 32 .mov [.tm 31],
 u2 33 32 false (.fieldAddr 2) [.tm 3],
 u2 34 32 false (.load false 1) [.tm 33],
 u2 35 32 false (.cmp .lss) [.tm 34, .cn (.int .i64 0)],
 u1 36 .or [.tm 32, .tm 35],
 u1 37 .mov [.tm 36],
 u2 38 37 false (.fieldAddr 2) [.tm 3],
 u2 39 37 false (.load false 1) [.tm 38],
 u2 40 37 false (.fieldAddr 0) [.tm 3],
 u2 41 37 false (.fieldAddr 0) [.tm 40],
 u2 42 37 false (.load false 1) [.tm 41],
 u2 43 37 false .len [.tm 42],
 u2 44 37 false (.cmp .geq) [.tm 39, .tm 43],
 u1 45 .or [.tm 37, .tm 44]])
 (.cond (.tm 45) (.seq (.region [u1 46 (.call 8) [],
 u1 6 .mov [.tm 46]])
 .ret)
  .skip))
 (.seq (.region [u1 48 (.fieldAddr 0) [.tm 3],
 u1 49 (.load true 1) [.tm 48],
 u1 50 (.fieldAddr 1) [.tm 3],
 u1 51 (.load false 1) [.tm 50],
 u1 52 (.fieldAddr 2) [.tm 3],
 u1 53 (.load false 1) [.tm 52],
 u1 54 (.call 16) [.tm 49, .tm 51, .tm 53],
 u1 47 .mov [.tm 54],
 u1 55 (.ext 0) [.tm 47],
 u1 56 (.ext 1) [.tm 47],
 u1 57 (.ext 2) [.tm 47],
 u1 7 .mov [.tm 55],
 u1 8 .mov [.tm 56],
 u1 9 .mov [.tm 57]])
 (.seq (.seq (.region [u1 58 .mov [.tm 9],
 u1 59 (.cmp .neq) [.tm 58, .cn (.int .i64 0)],
 u1 60 .mov [.tm 59],
 u2 61 60 false (.fieldAddr 1) [.tm 3],
 u2 62 60 false (.load false 1) [.tm 61],
 u2 63 60 false .len [.tm 62],
 u2 64 60 false (.cmp .eql) [.tm 63, .cn (.int .i64 0)],
 u1 65 .or [.tm 60, .tm 64]])
 (.cond (.tm 65) (.seq (.region [u1 66 .mov [.tm 9],
 u1 67 (.cmp .eql) [.tm 66, .cn (.int .i64 0)],
 u1 68 .mov [.tm 67],
 u2 69 68 true .mov [.tm 7],
 u2 70 68 true .len [.tm 69],
 u2 71 68 true (.cmp .eql) [.tm 70, .cn (.int .i64 0)],
 u1 72 .and [.tm 68, .tm 71],
 u1 73 .mov [.tm 72],
 u2 74 73 true (.call 8) [],
 u1 75 .and [.tm 73, .tm 74],
 u1 6 .mov [.tm 75]])
 .ret)
  .skip))
 (.seq (.seq (.region [u1 76 .mov [.tm 7],
 u1 77 .len [.tm 76],
 u1 78 (.fieldAddr 1) [.tm 3],
 u1 79 (.load false 1) [.tm 78],
 u1 80 .len [.tm 79],
 u1 81 (.cmp .neq) [.tm 77, .tm 80]])
 (.cond (.tm 81) (.seq (.region [u1 6 .mov [.cn (.bool false)]])
 .ret)
  .skip))
 (.seq (.region [u1 82 .mov [.tm 1],
 u1 83 (.conv .i64) [.tm 82],
 u1 84 .mov [.tm 7],
 u1 85 .len [.tm 84],
 u1 86 (.ari .add) [.tm 85, .cn (.int .i64 1)],
 u1 87 .rem [.tm 83, .tm 86],
 u1 10 .mov [.tm 87]])
 (.seq (.region [u1 88 (.fieldAddr 2) [.tm 3],
 u1 89 (.load false 1) [.tm 88],
 u1 11 .mov [.tm 89],
 u1 12 .mov [.cn (.int .i64 0)]])
 (.seq (.seq (.region [u1 13 .mov [.cn (.int .i64 0)]])
 (.block 0 (.loop (.seq (.seq (.region [u1 90 .mov [.tm 13],
 u1 91 .mov [.tm 10],
 u1 92 (.cmp .lss) [.tm 90, .tm 91]])
 (.cond (.tm 92) .skip
  (.exit 0)))
 (.seq (.block 1 (.seq (.seq (.draw [] [w1 95 .mov [.tm 7],
 w1 96 .mov [.tm 13],
 w1 97 (.idxAddr 1) [.tm 95, .tm 96],
 w1 98 (.load false 1) [.tm 97],
 w1 99 (.cmp .lss) [.tm 98, .cn (.int .i64 0)],
 w1 100 .mov [.tm 99],
 ⟨u2 101 100 false .mov [.tm 7], []⟩,
 ⟨u2 102 100 false .mov [.tm 13], []⟩,
 ⟨u2 103 100 false (.idxAddr 1) [.tm 101, .tm 102], []⟩,
 ⟨u2 104 100 false (.load false 1) [.tm 103], []⟩,
 ⟨u2 105 100 false (.fieldAddr 1) [.tm 3], []⟩,
 ⟨u2 106 100 false (.load false 1) [.tm 105], []⟩,
 ⟨u2 107 100 false .len [.tm 106], []⟩,
 ⟨u2 108 100 false (.cmp .geq) [.tm 104, .tm 107], []⟩,
 w1 109 .or [.tm 100, .tm 108]])
 (.cond (.tm 109) (.seq (.region [u1 6 .mov [.cn (.bool false)]])
 .ret)
  .skip))
 (.seq (.draw [] [w1 110 (.fieldAddr 1) [.tm 3],
 w1 111 (.load false 1) [.tm 110],
 w1 112 .mov [.tm 7],
 w1 113 .mov [.tm 13],
 w1 114 (.idxAddr 1) [.tm 112, .tm 113],
 w1 115 (.load false 1) [.tm 114],
 w1 116 (.idxAddr 4) [.tm 111, .tm 115],
 w1 117 (.fieldAddr 1) [.tm 116],
 w1 118 (.load false 1) [.tm 117],
 w1 14 .mov [.tm 118]])
 (.region [u1 119 .mov [.tm 12],
 u1 120 (.fieldAddr 0) [.tm 3],
 u1 121 (.fieldAddr 0) [.tm 120],
 u1 122 (.load false 1) [.tm 121],
 u1 123 .mov [.tm 11],
 u1 124 (.idxAddr 1) [.tm 122, .tm 123],
 u1 125 (.load false 1) [.tm 124],
 u1 126 .mov [.tm 14],
 u1 127 (.idxAddr 1) [.tm 125, .tm 126],
 u1 128 (.load false 1) [.tm 127],
 u1 129 (.ari .add) [.tm 119, .tm 128],
 u1 130 .mov [.tm 14],
 u1 12 .mov [.tm 129],
 u1 11 .mov [.tm 130]]))))
 (.region [u1 93 .mov [.tm 13],
 u1 94 (.ari .add) [.tm 93, .cn (.int .i64 1)],
 u1 13 .mov [.tm 94]]))))))
 (.seq (.draw [] [w1 132 (.fieldAddr 0) [.tm 3],
 w1 133 (.load true 1) [.tm 132],
 w1 134 (.fieldAddr 1) [.tm 3],
 w1 135 (.load false 1) [.tm 134],
 w1 136 .mov [.tm 11],
 w1 137 .mov [.tm 7],
 w1 138 .mov [.tm 10],
 w1 139 (.slice 1 false true) [.tm 137, .tm 138],
 w1 140 (.call 18) [.tm 133, .tm 135, .tm 136, .tm 139],
 w1 131 .mov [.tm 140],
 w1 141 (.ext 0) [.tm 131],
 w1 142 (.ext 1) [.tm 131],
 w1 143 (.ext 2) [.tm 131],
 w1 15 .mov [.tm 141],
 w1 16 .mov [.tm 142],
 w1 9 .mov [.tm 143]])
 (.seq (.seq (.region [u1 144 .mov [.tm 9],
 u1 145 (.cmp .neq) [.tm 144, .cn (.int .i64 0)],
 u1 146 .mov [.tm 145],
 u2 147 146 false .mov [.tm 15],
 u2 148 146 false .mov [.tm 7],
 u2 149 146 false .mov [.tm 10],
 u2 150 146 false (.slice 1 true false) [.tm 148, .tm 149],
 u2 151 146 false (.call 20) [.tm 147, .tm 150],
 u2 152 146 false .not [.tm 151],
 u1 153 .or [.tm 146, .tm 152],
 u1 154 .mov [.tm 153],
 u2 155 154 false .mov [.tm 12],
 u2 156 154 false .mov [.tm 16],
 u2 157 154 false (.ari .add) [.tm 155, .tm 156],
 u2 158 154 false .mov [.tm 8],
 u2 159 154 false (.cmp .neq) [.tm 157, .tm 158],
 u1 160 .or [.tm 154, .tm 159]])
 (.cond (.tm 160) (.seq (.region [u1 6 .mov [.cn (.bool false)]])
 .ret)
  .skip))
 (.seq (.region [u1 161 (.buildSlice 4 0 [(.val (.string ⟨#[]⟩)), (.int .i64 0), .nil, (.int .i64 0)] []) [],
 u1 162 (.fieldAddr 1) [.tm 3],
 u1 163 (.load false 1) [.tm 162],
 u1 164 (.append 4 56 [(.val (.string ⟨#[]⟩)), (.int .i64 0), .nil, (.int .i64 0)]) [.tm 161, .tm 163],
 u1 17 .mov [.tm 164]])
 (.seq (.region [u1 165 .mov [.tm 2],
 u1 166 (.conv .i64) [.tm 165],
 u1 167 .mov [.tm 17],
 u1 168 .len [.tm 167],
 u1 169 .rem [.tm 166, .tm 168],
 u1 18 .mov [.tm 169]])
 (.seq (.seq (.region [u1 170 .mov [.tm 17],
 u1 171 .mov [.tm 18],
 u1 172 (.idxAddr 4) [.tm 170, .tm 171],
 u1 173 (.fieldAddr 2) [.tm 172],
 u1 174 (.load false 1) [.tm 173],
 u1 175 .len [.tm 174],
 u1 176 (.cmp .gtr) [.tm 175, .cn (.int .i64 0)]])
 (.cond (.tm 176) (.region [u1 177 .mov [.tm 17],
 u1 178 .mov [.tm 18],
 u1 179 .mov [.tm 17],
 u1 180 .mov [.tm 18],
 u1 181 (.idxAddr 4) [.tm 179, .tm 180],
 u1 182 (.fieldAddr 2) [.tm 181],
 u1 183 (.load false 1) [.tm 182],
 u1 184 (.slice 1 true false) [.tm 183, .cn (.int .i64 1)],
 u1 185 (.idxAddr 4) [.tm 177, .tm 178],
 u1 186 (.fieldAddr 2) [.tm 185],
 u0 (.store 1) [.tm 186, .tm 184]])
  .skip))
 (.seq (.region [u1 188 (.fieldAddr 0) [.tm 3],
 u1 189 (.load true 1) [.tm 188],
 u1 190 .mov [.tm 17],
 u1 191 (.fieldAddr 2) [.tm 3],
 u1 192 (.load false 1) [.tm 191],
 u1 193 (.call 16) [.tm 189, .tm 190, .tm 192],
 u1 187 .mov [.tm 193],
 u1 194 (.ext 0) [.tm 187],
 u1 195 (.ext 1) [.tm 187],
 u1 196 (.ext 2) [.tm 187],
 u1 16 .mov [.tm 195],
 u1 9 .mov [.tm 196]])
 (.seq (.region [u1 197 .mov [.tm 9],
 u1 198 (.cmp .eql) [.tm 197, .cn (.int .i64 0)],
 u1 199 .mov [.tm 198],
 u2 200 199 true .mov [.tm 16],
 u2 201 199 true .mov [.tm 8],
 u2 202 199 true (.cmp .leq) [.tm 200, .tm 201],
 u1 203 .and [.tm 199, .tm 202],
 u1 204 .mov [.tm 203],
 u2 205 204 true (.call 8) [],
 u1 206 .and [.tm 204, .tm 205],
 u1 6 .mov [.tm 206]])
 .ret))))))))))))))) }
theorem v6_is : vfunc Try.prog Try.f6 = some v6 := by kernel_rfl

theorem subLo_eq {n i : Nat} : subLo n i = n - i := by
  cases i <;> simp [subLo]
theorem addLo_eq {k i : Nat} : addLo i k = i + k := by
  cases i <;> simp [addLo]
def cutL (l : List Wk) (j : Nat) : List Wk := l.set j ⟨(l.getD j default).nm, (l.getD j default).pl, ⟨(l.getD j default).af.z, (l.getD j default).af.v.tail⟩, (l.getD j default).mi⟩
theorem cutL_len {l : List Wk} {j : Nat} : (cutL l j).length = l.length := by simp [cutL]
theorem cutL_get {l : List Wk} {j : Nat} (hj : j < l.length) (k : Nat) : (cutL l j).getD k default = if k = j then ⟨(l.getD j default).nm, (l.getD j default).pl, ⟨(l.getD j default).af.z, (l.getD j default).af.v.tail⟩, (l.getD j default).mi⟩ else l.getD k default := by
  unfold cutL
  by_cases h : k = j
  · subst h
    simp [List.getD_eq_getElem?_getD, hj]
  · have h' : ¬ j = k := fun e => h e.symm
    rw [if_neg h]
    simp [List.getD_eq_getElem?_getD, List.getElem?_set, h']
theorem cutL_less {l : List Wk} {j : Nat} (hj : j < l.length) : Less l (cutL l j) := by
  refine ⟨cutL_len, fun k => ?_, fun k => ?_, fun k => ?_, fun k => ?_⟩ <;> rw [cutL_get hj] <;> by_cases h : k = j
  · subst h; rw [if_pos rfl]
  · rw [if_neg h]
  · subst h; rw [if_pos rfl]
  · rw [if_neg h]
  · subst h; rw [if_pos rfl]
  · rw [if_neg h]
  · subst h; rw [if_pos rfl]; exact .inr rfl
  · rw [if_neg h]; exact .inl rfl
theorem cutL_okW {l : List Wk} {j : Nat} (hj : j < l.length) (hw : okW l) : okW (cutL l j) := by
  intro x hx
  obtain ⟨k, hk, rfl⟩ := mem_getD hx
  rw [cutL_len] at hk
  rw [cutL_get hj]
  by_cases h : k = j
  · rw [if_pos h]
    have := hw _ (getD_mem hj)
    refine ⟨?_, this.2⟩
    have h1 := this.1
    simp only [List.length_tail]
    omega
  · rw [if_neg h]
    exact hw _ (getD_mem hk)
def lawR0 : List PSh := [⟨true, shSe⟩, ⟨false, [.int .u8]⟩, ⟨false, [.int .u8]⟩]
theorem u8_rng {x : Int} (h : (Lit.int .u8 x).wf = true) : 0 ≤ x ∧ x ≤ 255 := by
  simp only [Lit.wf, Bool.and_eq_true, decide_eq_true_eq, show IntKind.min .u8 = 0 by decide, show IntKind.max .u8 = 255 by decide] at h
  exact h

def TQ0 : Env := { ct := fun n => match n with | 7 => some farC | 8 => some trueC | 18 => some RestC | 16 => some PlanC | 14 => some chkC | 20 => some samC | _ => none, fn := fun _ => none, meth := fun _ _ => none }
theorem TQ0_ct7 : TQ0.ct 7 = some farC := rfl
theorem TQ0_ct8 : TQ0.ct 8 = some trueC := rfl
theorem TQ0_ct18 : TQ0.ct 18 = some RestC := rfl
theorem TQ0_ct16 : TQ0.ct 16 = some PlanC := rfl
theorem TQ0_ct14 : TQ0.ct 14 = some chkC := rfl
theorem TQ0_ct20 : TQ0.ct 20 = some samC := rfl
theorem TQ0_ok : EnvOk Try.prog TQ0 := by
  refine ⟨fun f c h => ?_, fun f vf h => ?_, (fun _ _ _ h => by cases h), by kernel_rfl⟩
  · simp only [TQ0] at h
    split at h
    · cases h; exact ⟨far_ok, Try.f7, Try.func7, by kernel_rfl, by kernel_rfl⟩
    · cases h; exact ⟨shown_ok, Try.f8, Try.func8, by kernel_rfl, by kernel_rfl⟩
    · cases h; exact ⟨Rest_ok, Try.f18, Try.func18, by kernel_rfl, by kernel_rfl⟩
    · cases h; exact ⟨Plan_ok, Try.f16, Try.func16, by kernel_rfl, by kernel_rfl⟩
    · cases h; exact ⟨rchk_ok, Try.f14, Try.func14, by kernel_rfl, by kernel_rfl⟩
    · cases h; exact ⟨sam_ok, Try.f20, Try.func20, by kernel_rfl, by kernel_rfl⟩
    · cases h
  · cases h

theorem lawRests : (lawC lawR0).ok Try.prog 6 := by
  refine contract Try.func6 v6_is TQ0_ok 800 (lawC lawR0) fun args k h => ?_
  obtain ⟨ha, hk⟩ := h
  obtain ⟨_, _, rfl, h1, e1⟩ := okPL_cons_inv ha
  obtain ⟨cs, rfl, hcs⟩ := okP_agg_inv h1
  obtain ⟨_, _, rfl, h2, e2⟩ := okPL_cons_inv e1
  obtain ⟨many, rfl, hm8⟩ := okP_one_inv h2
  obtain ⟨_, _, rfl, h3, e3⟩ := okPL_cons_inv e2
  obtain ⟨which, rfl, hw8⟩ := okP_one_inv h3
  cases okPL_nil_inv e3
  obtain ⟨zh, zl, zo, h0, l, p, o, r, hle⟩ := se_of hcs
  have hk : k (.bool true) [] := hk
  have hm8 := u8_rng hm8
  have hw8 := u8_rng hw8
  refine ⟨[.agg (encSe zh zl zo h0 l p o r), .int .u8 many, .int .u8 which], ⟨leXL_le _ _ hle (by simp only [encSe, bndL_cons, bndL_nil, bnd_vs, bnd_int, and_self]), ⟨rfl, rfl⟩, ⟨rfl, rfl⟩, trivial⟩, ?_⟩
  dsimp only [v6, encSe, TQ0_ct7, TQ0_ct8, TQ0_ct18, TQ0_ct16, TQ0_ct14, TQ0_ct20, farC, trueC, RestC, PlanC, chkC, samC, go_sem, Option.bind, Option.map, List.append_nil, Nat.beq, List.cons_append, List.nil_append, List.append_eq, List.map_cons, List.map_nil, ite_self, reduceIte]
  simp only [true_and, and_true, imp_self, implies_true, decide_eq_true_eq, decide_eq_false_iff_not, Nat.reduceAdd, Nat.reduceLeDiff, Bool.not_not, reduceCtorEq, false_imp_iff, Bool.not_eq_true', Bool.not_eq_false', Bool.false_eq_true, and_self, forall_const, ne_eq, not_false_eq_true, Nat.reduceEqDiff]
  refine ⟨h0, l, ⟨vH _ _ _, vW _ _ _⟩, h0, l, fun hf => ⟨vH _ _ _, vW _ _ _, far_no hf⟩, fun _ => ans_bool hk, fun hb => ?_⟩
  simp only [Bool.or_eq_false_iff, Bool.not_eq_false', decide_eq_true_eq, decide_eq_false_iff_not] at hb
  obtain ⟨⟨⟨hf, hc⟩, p0⟩, p1⟩ := hb
  have p0 : 0 ≤ p := by omega
  have p1 : p < (h0.length : Int) := by omega
  have kB := far_no hf
  obtain ⟨c1, c2, c3, c4, c5⟩ := chk_facts hc
  have hplan := plan_yes hc p0 p1
  obtain ⟨q1, q2, q3⟩ := path_ord (h := h0) (l := l) (p := p) hc
  refine ⟨h0, l, ⟨vH _ _ _, vW _ _ _, kB⟩, fun z => ⟨by decide, by decide, by decide, ?_⟩⟩
  simp only [hplan]
  refine ⟨fun hz => ?_, fun hz => ⟨fun hn => ?_, fun _ => ?_⟩⟩
  · have hl0 : l.length = 0 := by simpa using hz
    have : (pathF h0 l 0 p).length = 0 := by omega
    rw [this]
    exact ans_bool hk
  · exact absurd q3 (by omega)
  have hl0 : 0 < l.length := by
    have : ¬ l.length = 0 := by simpa using hz
    omega
  have hw1 : IntKind.i64.wrap (((pathF h0 l 0 p).length : Int) + 1) = ((l.length + 1 : Nat) : Int) := by rw [q3, w6_raw (by omega) (by omega)]; omega
  have hw2 : IntKind.i64.wrap many = many := w6_raw (by omega) (by omega)
  obtain ⟨m, hm, hml⟩ : ∃ m : Nat, many.tmod ((l.length + 1 : Nat) : Int) = (m : Int) ∧ m ≤ l.length := by
    have h1 : 0 ≤ many.tmod ((l.length + 1 : Nat) : Int) := Int.tmod_nonneg _ hm8.1
    have h2 := Int.tmod_lt_of_pos many (by omega : 0 < ((l.length + 1 : Nat) : Int))
    exact ⟨(many.tmod ((l.length + 1 : Nat) : Int)).toNat, by omega, by omega⟩
  rw [hw1, hw2, hm]
  obtain ⟨r1, hor⟩ := ord_rng q1
  have hrng := mov_rng c3 p0 p1 hor
  obtain ⟨A, hA⟩ : ∃ A, A = pathF h0 l 0 p := ⟨_, rfl⟩
  obtain ⟨N, hN⟩ : ∃ N, N = (Few h0 l 0 p).1 := ⟨_, rfl⟩
  rw [← hA] at q1 q2 q3 hor hrng hplan
  rw [← hN] at q2 hplan
  simp only [← hA, ← hN]
  refine ⟨by omega, ?_⟩
  refine Loop.keep [0, 0, 0, 0, 3, 0, 0, 0] Nat (fun i => [(6, .bool false), (11, .int .i64 (movF h0 l p (A.take i)).2), (12, .int .i64 (movF h0 l p (A.take i)).1), (13, .int .i64 i)]) (fun _ => []) [] (fun i => i ≤ m) (fun i => m - i) ?_ ?_
  · refine ⟨0, Nat.zero_le _, ?_⟩
    dsimp only [go_sem, Option.bind, Option.map, List.append_nil, Nat.beq, List.cons_append, List.nil_append, List.append_eq, List.map_cons, List.map_nil, ite_self, reduceIte]
    simp only [leS_mk, leL_cons, leL_nil, le_junk, le_int, le_bool, le_nil, leLL_nil, leLL_cons, leH_cons, leH_nil, leH1_box, leH1_own, leH1_gone, le_vs, le_agg, le_tup, le_ptr, le_own, le_xp, le_fn, le_opt, le_val, le_elem, le_nil_own, le_nil_vs, leH_ghost, leL_chunk, leXL_id, bnd_int, bnd_bool, bnd_val, bnd_nil, bnd_junk, bnd_vs, bnd_xp, bnd_agg, bnd_tup, bnd_ptr, bnd_own, bnd_elem, bnd_fn, bnd_iface, bnd_opt, bnd_row, bnd_rcell, bnd_imap, bnd_smp, le_row, le_rcell, le_imap, le_smp, leH1_smap, bndL_nil, bndL_cons, lenH_cons, lenH_nil, imp_self, implies_true, true_and, and_true]
    simp [movF]
  · rintro i hi
    dsimp only [TQ0_ct18, TQ0_ct20, TQ0_ct8, TQ0_ct16, RestC, samC, trueC, PlanC, enc1, encR, encK, go_sem, Option.bind, Option.map, List.append_nil, Nat.beq, List.cons_append, List.nil_append, List.append_eq, List.map_cons, List.map_nil, ite_self, reduceIte]
    simp only [true_and, and_true, imp_self, implies_true, decide_eq_true_eq, decide_eq_false_iff_not, Nat.reduceAdd, Nat.reduceLeDiff, Bool.not_not, reduceCtorEq, false_imp_iff, Bool.not_eq_true', Bool.not_eq_false', Bool.false_eq_true, and_self, forall_const, ne_eq, not_false_eq_true, Nat.reduceEqDiff, Int.toNat_natCast]
    refine ⟨fun hlt => ?_, fun hge => ?_⟩
    · have hi' : i < m := by omega
      obtain ⟨a0, a1⟩ := hor i (by omega)
      obtain ⟨⟨g1, g2⟩, g3, g4⟩ := hrng i (by omega)
      have hp := good_pl c3 (by omega : (A.getD i default).toNat < l.length)
      have hr := good_row c3 (by omega : (movF h0 l p (A.take i)).2.toNat < h0.length)
      have hcc := hr.2 (l.getD (A.getD i default).toNat default).pl.toNat (by omega)
      refine ⟨⟨by omega, by omega⟩, fun _ => ⟨by omega, by omega⟩, fun hb => ?_, fun _ => ⟨⟨by omega, by omega⟩, ⟨a0, a1⟩, ⟨g3, g4⟩, ⟨hp.1, by rw [hr.1]; exact hp.2⟩, i + 1, by omega, by omega, ?_⟩⟩
      · simp only [Bool.or_eq_true, decide_eq_true_eq] at hb
        omega
      · rw [w6_raw (x := (movF h0 l p (List.take i A)).fst + (List.getD h0 (movF h0 l p (List.take i A)).snd.toNat default).v.getD (l.getD (A.getD i default).toNat default).pl.toNat default) (by omega) (by omega), movF_succ (by omega : i < A.length)]
        simp only [leS_mk, leL_cons, leL_nil, le_junk, le_int, le_bool, le_nil, leLL_nil, leLL_cons, leH_cons, leH_nil, leH1_box, leH1_own, leH1_gone, le_vs, le_agg, le_tup, le_ptr, le_own, le_xp, le_fn, le_opt, le_val, le_elem, le_nil_own, le_nil_vs, leH_ghost, leL_chunk, leXL_id, bnd_int, bnd_bool, bnd_val, bnd_nil, bnd_junk, bnd_vs, bnd_xp, bnd_agg, bnd_tup, bnd_ptr, bnd_own, bnd_elem, bnd_fn, bnd_iface, bnd_opt, bnd_row, bnd_rcell, bnd_imap, bnd_smp, le_row, le_rcell, le_imap, le_smp, leH1_smap, bndL_nil, bndL_cons, lenH_cons, lenH_nil, imp_self, implies_true, true_and, and_true]
        exact ⟨by omega, rfl, rfl, w_succ hi' (by omega)⟩
    · obtain rfl : i = m := by omega
      have hrt := rest_take (h := h0) (l := l) (p := p) hc p0 p1 (k := i) (by rw [← hA]; omega)
      rw [← hA, ← hN] at hrt
      have htl : (A.take i).length = i := by rw [List.length_take]; omega
      refine ⟨⟨by omega, by omega⟩, h0, l, A.take i, ⟨⟨rfl, rfl, fun k _ => leXL_self _⟩, ⟨rfl, rfl, fun k _ => leXL_self _⟩, ⟨rfl, htl.symm, fun k hk => ?_⟩, kB, by omega⟩, fun z3 => ⟨by decide, by decide, by decide, fun _ => ⟨by omega, by omega⟩, ?_⟩⟩
      · rw [show (A.take i).getD k default = A.getD k default from by simp [List.getD_eq_getElem?_getD, List.getElem?_take, hk]]
        exact leXL_self _
      simp only [hrt]
      refine ⟨A.drop i, A.drop i, fun _ => ⟨⟨rfl, rfl, fun k _ => leXL_self _⟩, ⟨rfl, by rw [List.length_drop]; exact subLo_eq, fun k hk => ?_⟩, by rw [List.length_drop]; omega⟩, fun hb => ?_, fun _ => ?_⟩
      · rw [show (A.drop i).getD k default = A.getD (addLo i k) default from by simp [List.getD_eq_getElem?_getD, addLo_eq]]
        exact leXL_self _
      · obtain ⟨⟨g1, g2⟩, g3, g4⟩ := hrng i (by omega)
        have : IntKind.i64.wrap ((movF h0 l p (A.take i)).1 + (N - (movF h0 l p (A.take i)).1)) = N := by
          have hN0 : 0 ≤ N ∧ N ≤ 1000 * l.length := by
            rw [hN]; exact FF_rng c3 l.length 0 p p0 p1
          rw [w6_raw (by omega) (by omega)]; omega
        rw [this] at hb
        simp at hb
      have hwh : IntKind.i64.wrap which = which := w6_raw (by omega) (by omega)
      obtain ⟨j, hj, hjl⟩ : ∃ j : Nat, which.tmod ((l.length : Nat) : Int) = (j : Int) ∧ j < l.length := by
        have h1 : 0 ≤ which.tmod ((l.length : Nat) : Int) := Int.tmod_nonneg _ hw8.1
        have h2 := Int.tmod_lt_of_pos which (by omega : 0 < ((l.length : Nat) : Int))
        exact ⟨(which.tmod ((l.length : Nat) : Int)).toNat, by omega, by omega⟩
      simp only [Nat.zero_add, hwh, hj, Int.toNat_natCast, Nat.not_lt_zero, if_false, Nat.sub_zero]
      dsimp only [TQ0_ct8, TQ0_ct16, trueC, PlanC, go_sem, Option.bind, Option.map, List.append_nil, Nat.beq, List.cons_append, List.nil_append, List.append_eq, List.map_cons, List.map_nil, ite_self, reduceIte]
      simp only [true_and, and_true, imp_self, implies_true, decide_eq_true_eq, decide_eq_false_iff_not, Nat.reduceAdd, Nat.reduceLeDiff, Bool.not_not, reduceCtorEq, false_imp_iff, Bool.not_eq_true', Bool.not_eq_false', Bool.false_eq_true, and_self, forall_const, ne_eq, not_false_eq_true, Nat.reduceEqDiff, Int.toNat_natCast]
      have hcut := cutL_less hjl
      have hcc := less_chk hcut hc
      have hpc := plan_yes hcc p0 p1
      have hfew := less_few hcut hc p
      rw [← hN] at hfew
      refine ⟨by decide, ⟨by unfold capOk; omega, fun _ _ => rfl⟩, by omega, ⟨by omega, by omega⟩, hjl, fun hpos => ⟨⟨by omega, by omega⟩, hjl, ⟨by omega, by omega⟩, ⟨by omega, by omega⟩, hjl, h0, cutL l j, ⟨⟨rfl, rfl, fun k _ => leXL_self _⟩, ⟨rfl, cutL_len.symm, fun k hk => ?_⟩, ⟨kB.1.1, by rw [cutL_len]; exact kB.1.2⟩, kB.2.1, cutL_okW hjl kB.2.2⟩, by decide, by decide, by decide, ?_⟩, fun hpos => ⟨h0, l, ⟨⟨rfl, rfl, fun k _ => leXL_self _⟩, ⟨rfl, rfl, fun k _ => leXL_self _⟩, kB⟩, by decide, by decide, by decide, ?_⟩⟩
      · rw [cutL_get hjl]
        by_cases hkj : k = j
        · subst hkj
          simp only [if_true]
          simp only [encK, enc1, viewL, view, leXL, leX, andT]
          simp [leXL, leX, Nat.add_comm]
        · simp only [if_neg hkj]
          simp [encK, enc1, viewL, view, leXL, leX, andT]
      · rw [hpc]
        refine ans_bool ?_
        simpa [hfew] using hk
      · rw [hplan]
        refine ans_bool ?_
        simpa using hk
end Go.Proofs.Yteioilioobichaa

/- Laws, as they are given, without a condition. -/
/- Laws, as they are given, without a condition. -/
set_option linter.all false
namespace Go.Proofs.Yteioilioobichaa
open Go Go.Vx Go.RowKit
set_option maxRecDepth 100000

theorem ownX1 : ownKnob Try.prog.godebug = none := by kernel_rfl
theorem laidX1 : laidOutB Try.prog = true := by kernel_rfl

theorem tuningRests_lifted (os : Os) (started : os.Started) (H : Type) (enc : TypeId × Value → H) :
    ReturnsInHanded {} Try.checked os 6 .any (Rows.tuningRestsSpec.pre6 enc Try.prog Try.f6 Rows.tuningRestsRow.domain false) (Rows.tuningRestsSpec.post enc Try.prog Try.f6 false true false false) :=
  law_lifted (C := Try.checked) (tb := 4) ownX1 started (by kernel_rfl) Try.func6 laidX1
    (ChangeSpec.witness6 (enc := enc) (C := Try.checked) false ⟨#[], #[.agg #[.slice none 0 0, .slice none 0 0, .int .i64 0, .slice none 0 0, .int .i64 0], .int .u8 0, .int .u8 0], []⟩ 8 (by kernel_rfl) (by kernel_rfl) (by kernel_rfl) (by kernel_rfl))
    (by kernel_rfl) (by kernel_rfl) (by kernel_rfl) (by kernel_rfl) rfl (fun ds h => match ds, h with | [_, _, _], _ => ⟨rfl, rfl, rfl⟩) lawRests

theorem tuningRests_holds : Rows.TuningRestsSaid :=
  OpenClaim.holds_of_wide 6 Try.f6 rfl rfl rfl rfl rfl rfl rfl ⟨rfl, rfl, rfl, rfl, rfl⟩ rfl rfl rfl rfl rfl (by kernel_rfl) Try.func6 (by kernel_rfl)
    (of_decide_eq_true (by kernel_rfl)) (by unfold Func.isWrapper; first | (rw [if_pos (by decide +kernel)]; kernel_rfl) | (rw [if_neg (by decide +kernel)]; exact ⟨rfl, rfl⟩))
    (fun os started H enc _ => tuningRests_lifted os started H enc)

end Go.Proofs.Yteioilioobichaa

