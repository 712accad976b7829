/- Layouts, walked: the document's examples. -/
import Derived.Test.YtojaibhjfeojjaaMgX11d
import Derived.Test.YtojaibhjfeojjaaMgX11c
import Derived.Test.YtojaibhjfeojjaaProg
set_option linter.all false
namespace Go.Proofs.Ytojaibhjfeojjaa
open Go Go.Vx
set_option maxRecDepth 100000
set_option maxHeartbeats 4000000

def bA (d : Int) : Brd := ⟨100, d, 2, 50, 3, [(50, 100)]⟩
def lA (x : Int) : List Std := [⟨50, 50, 5, 10⟩, ⟨x, 70, 5, 20⟩]
def fA : List Ft := [(20, 1), (20, 1), (10, 1), (10, 1), (10, 1), (5, 1)]
def rA : List Std := [⟨20, 20, 20, 1⟩, ⟨62, 20, 20, 1⟩, ⟨10, 52, 10, 1⟩, ⟨32, 52, 10, 1⟩, ⟨54, 52, 10, 1⟩, ⟨71, 52, 5, 1⟩]
theorem reach1 : reachR (bA 100) (lA 57) 0 = ([], 0) := by decide +kernel
theorem reach2 : reachR (bA 100) (lA 58) 0 = ([0], 0) := by decide +kernel
theorem rows1 : rowsR (bA 70) fA = (rA, 0) := by decide +kernel
theorem order1 : orderR 5 2 = ([0, 2, 4, 3, 1], 0) := by decide +kernel

def M0 : Env := { ct := fun n => match n with | 32 => some sdC | 16 => some samIC | 13 => some samSC | 17 => some reaC | 11 => some rowC | 14 => some ordC | _ => none, fn := fun _ => none, meth := fun _ _ => none }
theorem M0_ct32 : M0.ct 32 = some sdC := rfl
theorem M0_ct16 : M0.ct 16 = some samIC := rfl
theorem M0_ct13 : M0.ct 13 = some samSC := rfl
theorem M0_ct17 : M0.ct 17 = some reaC := rfl
theorem M0_ct11 : M0.ct 11 = some rowC := rfl
theorem M0_ct14 : M0.ct 14 = some ordC := rfl
theorem M0_ok : EnvOk Try.prog M0 := by
  refine ⟨fun f c h => ?_, fun f vf h => ?_, (fun _ _ _ h => by cases h), by kernel_rfl⟩
  · simp only [M0] at h
    split at h
    · cases h; exact ⟨sd_ok, Try.f32, Try.func32, by kernel_rfl, by kernel_rfl⟩
    · cases h; exact ⟨samI_ok, Try.f16, Try.func16, by kernel_rfl, by kernel_rfl⟩
    · cases h; exact ⟨samS_ok, Try.f13, Try.func13, by kernel_rfl, by kernel_rfl⟩
    · cases h; exact ⟨rea_ok, Try.f17, Try.func17, by kernel_rfl, by kernel_rfl⟩
    · cases h; exact ⟨row_ok, Try.f11, Try.func11, by kernel_rfl, by kernel_rfl⟩
    · cases h; exact ⟨ord_ok, Try.f14, Try.func14, by kernel_rfl, by kernel_rfl⟩
    · cases h
  · cases h

theorem awake_ok : trueC.ok Try.prog 10 := by
  refine contract Try.func10 v10_is M0_ok 400 trueC fun args k h => ?_
  simp only [trueC] at h
  split at h
  · refine ⟨[], trivial, ?_⟩
    have h : k (.bool true) [] := h
    dsimp only [v10, M0_ct32, M0_ct17, sdC, reaC, lsR, encI, go_sem, Option.bind, Option.map, List.append_nil, Nat.beq, List.cons_append, List.nil_append, List.append_eq, List.map_cons, List.map_nil, ite_self, reduceIte]
    simp only [true_and, and_true, imp_self, implies_true, decide_eq_true_eq, decide_eq_false_iff_not, Nat.reduceAdd, Nat.reduceLeDiff, Bool.not_not, reduceCtorEq, false_imp_iff, Bool.not_eq_true', Bool.not_eq_false', Bool.false_eq_true, and_self, forall_const, ne_eq, not_false_eq_true, Nat.reduceEqDiff]
    refine ⟨by decide, by decide, bA 100, lA 57, ⟨⟨⟨rfl, rfl, rfl, rfl, rfl⟩, rfl, rfl, fun k hk => match k, hk with | 0, _ => ⟨⟨rfl, rfl⟩, ⟨rfl, rfl⟩, trivial⟩⟩, ⟨rfl, rfl, fun k hk => match k, hk with
      | 0, _ => ⟨⟨rfl, rfl⟩, ⟨rfl, rfl⟩, ⟨rfl, rfl⟩, ⟨rfl, rfl⟩, trivial⟩ 
      | 1, _ => ⟨⟨rfl, rfl⟩, ⟨rfl, rfl⟩, ⟨rfl, rfl⟩, ⟨rfl, rfl⟩, trivial⟩⟩, by decide⟩, by decide, by decide, by decide, by decide,
      bA 100, lA 58, ⟨⟨⟨rfl, rfl, rfl, rfl, rfl⟩, rfl, rfl, fun k hk => match k, hk with | 0, _ => ⟨⟨rfl, rfl⟩, ⟨rfl, rfl⟩, trivial⟩⟩, ⟨rfl, rfl, fun k hk => match k, hk with
      | 0, _ => ⟨⟨rfl, rfl⟩, ⟨rfl, rfl⟩, ⟨rfl, rfl⟩, ⟨rfl, rfl⟩, trivial⟩ 
      | 1, _ => ⟨⟨rfl, rfl⟩, ⟨rfl, rfl⟩, ⟨rfl, rfl⟩, ⟨rfl, rfl⟩, trivial⟩⟩, by decide⟩, ?_⟩
    rw [reach1, reach2]
    refine ⟨by decide, by decide, ?_⟩
    refine Loop.keep [1, 1, 0, 0, 0] Nat (fun i => [(7, .own 3 0 i 2), (8, .int .i64 i)]) (fun i => [(3, .own (decide (i = 0)) 2 i (fun k => encT (fA.getD k default)))]) [.gone] (fun i => i ≤ 6) (fun i => 6 - i) ?_ ?_
    · refine ⟨0, Nat.zero_le _, ?_⟩
      dsimp only [go_sem, Option.bind, Option.map, List.append_nil, Nat.beq, List.cons_append, List.nil_append, List.append_eq, List.map_cons, List.map_nil, ite_self, reduceIte]
      simp only [leS_mk, leL_cons, leL_nil, le_junk, le_int, le_bool, le_nil, leLL_nil, leLL_cons, leH_cons, leH_nil, leH1_box, leH1_own, leH1_gone, le_vs, le_agg, le_tup, le_ptr, le_own, le_xp, le_fn, le_opt, le_val, le_elem, le_nil_own, le_nil_vs, leH_ghost, leL_chunk, leXL_id, bnd_int, bnd_bool, bnd_val, bnd_nil, bnd_junk, bnd_vs, bnd_xp, bnd_agg, bnd_tup, bnd_ptr, bnd_own, bnd_elem, bnd_fn, bnd_iface, bnd_opt, bndL_nil, bndL_cons, lenH_cons, lenH_nil, imp_self, implies_true, true_and, and_true]
      simp
      intro k hk
      rcases (by omega : k = 0 ∨ k = 1) with rfl | rfl <;> simp [leL, le, spliceL, takeL, dropL]
    · rintro i hi
      rcases (by omega : i = 6 ∨ i = 0 ∨ i = 1 ∨ i = 2 ∨ i = 3 ∨ i = 4 ∨ i = 5) with rfl | rfl | rfl | rfl | rfl | rfl | rfl
      all_goals
        dsimp only [M0_ct16, M0_ct13, M0_ct32, M0_ct11, M0_ct14, sdC, rowC, ordC, samIC, samSC, samC, lsS, encT, encI, encS, go_sem, Option.bind, Option.map, List.append_nil, Nat.beq, List.cons_append, List.nil_append, List.append_eq, List.map_cons, List.map_nil, ite_self, reduceIte]
        simp only [true_and, and_true, imp_self, implies_true, decide_eq_true_eq, decide_eq_false_iff_not, Nat.reduceAdd, Nat.reduceLeDiff, Bool.not_not, reduceCtorEq, false_imp_iff, Bool.not_eq_true', Bool.not_eq_false', Bool.false_eq_true, and_self, forall_const, ne_eq, not_false_eq_true, Nat.reduceEqDiff]
      rotate_left
      · refine ⟨fun _ => ⟨by decide, ⟨by decide, by decide⟩, ⟨by decide, by decide⟩, ⟨by decide, by simp [ones, one, takeL, dropL], by decide⟩, ⟨⟨by decide, by simp [ones, one, takeL, dropL, spliceL]⟩, by decide⟩, ⟨by unfold capOk; omega, fun q hq => ?_⟩, 1, by decide, by decide, ?_⟩, fun hge => by omega⟩
        · obtain rfl : q = 0 := by omega
          simp [ones, one, takeL, dropL, spliceL, lenL]
        · simp only [leS_mk, leL_cons, leL_nil, le_junk, le_int, le_bool, le_nil, leLL_nil, leLL_cons, leH_cons, leH_nil, leH1_box, leH1_own, leH1_gone, le_vs, le_agg, le_tup, le_ptr, le_own, le_xp, le_fn, le_opt, le_val, le_elem, le_nil_own, le_nil_vs, leH_ghost, leL_chunk, leXL_id, bnd_int, bnd_bool, bnd_val, bnd_nil, bnd_junk, bnd_vs, bnd_xp, bnd_agg, bnd_tup, bnd_ptr, bnd_own, bnd_elem, bnd_fn, bnd_iface, bnd_opt, bndL_nil, bndL_cons, lenH_cons, lenH_nil, imp_self, implies_true, true_and, and_true]
          refine ⟨⟨by decide, by decide, by decide +kernel⟩, fun q hq => ?_, by decide, fun q hq => ?_, by decide, fun q hq => ?_⟩
          · obtain rfl : q = 0 := by omega
            simp [takeL, dropL, spliceL, purgeL, purge, leL, le, refs, chunk]
          · rcases (by omega : q = 0 ∨ q = 1) with rfl | rfl <;> simp [takeL, dropL, spliceL, purgeL, purge, leL, le, refs, chunk]
          · rcases (by omega : q = 0) with rfl <;> simp [takeL, dropL, spliceL, purgeL, purge, leL, le, refs, chunk, fA]
      · refine ⟨fun _ => ⟨by decide, ⟨by decide, by decide⟩, ⟨by decide, by decide⟩, ⟨by decide, by simp [ones, one, takeL, dropL], by decide⟩, ⟨⟨by decide, by simp [ones, one, takeL, dropL, spliceL]⟩, by decide⟩, ⟨by unfold capOk; omega, fun q hq => ?_⟩, 2, by decide, by decide, ?_⟩, fun hge => by omega⟩
        · obtain rfl : q = 0 := by omega
          simp [ones, one, takeL, dropL, spliceL, lenL]
        · simp only [leS_mk, leL_cons, leL_nil, le_junk, le_int, le_bool, le_nil, leLL_nil, leLL_cons, leH_cons, leH_nil, leH1_box, leH1_own, leH1_gone, le_vs, le_agg, le_tup, le_ptr, le_own, le_xp, le_fn, le_opt, le_val, le_elem, le_nil_own, le_nil_vs, leH_ghost, leL_chunk, leXL_id, bnd_int, bnd_bool, bnd_val, bnd_nil, bnd_junk, bnd_vs, bnd_xp, bnd_agg, bnd_tup, bnd_ptr, bnd_own, bnd_elem, bnd_fn, bnd_iface, bnd_opt, bndL_nil, bndL_cons, lenH_cons, lenH_nil, imp_self, implies_true, true_and, and_true]
          refine ⟨⟨by decide, by decide, by decide +kernel⟩, fun q hq => ?_, by decide, fun q hq => ?_, by decide, fun q hq => ?_⟩
          · obtain rfl : q = 0 := by omega
            simp [takeL, dropL, spliceL, purgeL, purge, leL, le, refs, chunk]
          · rcases (by omega : q = 0 ∨ q = 1) with rfl | rfl <;> simp [takeL, dropL, spliceL, purgeL, purge, leL, le, refs, chunk]
          · rcases (by omega : q = 0 ∨ q = 1) with rfl | rfl <;> simp [takeL, dropL, spliceL, purgeL, purge, leL, le, refs, chunk, fA]
      · refine ⟨fun _ => ⟨by decide, ⟨by decide, by decide⟩, ⟨by decide, by decide⟩, ⟨by decide, by simp [ones, one, takeL, dropL], by decide⟩, ⟨⟨by decide, by simp [ones, one, takeL, dropL, spliceL]⟩, by decide⟩, ⟨by unfold capOk; omega, fun q hq => ?_⟩, 3, by decide, by decide, ?_⟩, fun hge => by omega⟩
        · obtain rfl : q = 0 := by omega
          simp [ones, one, takeL, dropL, spliceL, lenL]
        · simp only [leS_mk, leL_cons, leL_nil, le_junk, le_int, le_bool, le_nil, leLL_nil, leLL_cons, leH_cons, leH_nil, leH1_box, leH1_own, leH1_gone, le_vs, le_agg, le_tup, le_ptr, le_own, le_xp, le_fn, le_opt, le_val, le_elem, le_nil_own, le_nil_vs, leH_ghost, leL_chunk, leXL_id, bnd_int, bnd_bool, bnd_val, bnd_nil, bnd_junk, bnd_vs, bnd_xp, bnd_agg, bnd_tup, bnd_ptr, bnd_own, bnd_elem, bnd_fn, bnd_iface, bnd_opt, bndL_nil, bndL_cons, lenH_cons, lenH_nil, imp_self, implies_true, true_and, and_true]
          refine ⟨⟨by decide, by decide, by decide +kernel⟩, fun q hq => ?_, by decide, fun q hq => ?_, by decide, fun q hq => ?_⟩
          · obtain rfl : q = 0 := by omega
            simp [takeL, dropL, spliceL, purgeL, purge, leL, le, refs, chunk]
          · rcases (by omega : q = 0 ∨ q = 1) with rfl | rfl <;> simp [takeL, dropL, spliceL, purgeL, purge, leL, le, refs, chunk]
          · rcases (by omega : q = 0 ∨ q = 1 ∨ q = 2) with rfl | rfl | rfl <;> simp [takeL, dropL, spliceL, purgeL, purge, leL, le, refs, chunk, fA]
      · refine ⟨fun _ => ⟨by decide, ⟨by decide, by decide⟩, ⟨by decide, by decide⟩, ⟨by decide, by simp [ones, one, takeL, dropL], by decide⟩, ⟨⟨by decide, by simp [ones, one, takeL, dropL, spliceL]⟩, by decide⟩, ⟨by unfold capOk; omega, fun q hq => ?_⟩, 4, by decide, by decide, ?_⟩, fun hge => by omega⟩
        · obtain rfl : q = 0 := by omega
          simp [ones, one, takeL, dropL, spliceL, lenL]
        · simp only [leS_mk, leL_cons, leL_nil, le_junk, le_int, le_bool, le_nil, leLL_nil, leLL_cons, leH_cons, leH_nil, leH1_box, leH1_own, leH1_gone, le_vs, le_agg, le_tup, le_ptr, le_own, le_xp, le_fn, le_opt, le_val, le_elem, le_nil_own, le_nil_vs, leH_ghost, leL_chunk, leXL_id, bnd_int, bnd_bool, bnd_val, bnd_nil, bnd_junk, bnd_vs, bnd_xp, bnd_agg, bnd_tup, bnd_ptr, bnd_own, bnd_elem, bnd_fn, bnd_iface, bnd_opt, bndL_nil, bndL_cons, lenH_cons, lenH_nil, imp_self, implies_true, true_and, and_true]
          refine ⟨⟨by decide, by decide, by decide +kernel⟩, fun q hq => ?_, by decide, fun q hq => ?_, by decide, fun q hq => ?_⟩
          · obtain rfl : q = 0 := by omega
            simp [takeL, dropL, spliceL, purgeL, purge, leL, le, refs, chunk]
          · rcases (by omega : q = 0 ∨ q = 1) with rfl | rfl <;> simp [takeL, dropL, spliceL, purgeL, purge, leL, le, refs, chunk]
          · rcases (by omega : q = 0 ∨ q = 1 ∨ q = 2 ∨ q = 3) with rfl | rfl | rfl | rfl <;> simp [takeL, dropL, spliceL, purgeL, purge, leL, le, refs, chunk, fA]
      · refine ⟨fun _ => ⟨by decide, ⟨by decide, by decide⟩, ⟨by decide, by decide⟩, ⟨by decide, by simp [ones, one, takeL, dropL], by decide⟩, ⟨⟨by decide, by simp [ones, one, takeL, dropL, spliceL]⟩, by decide⟩, ⟨by unfold capOk; omega, fun q hq => ?_⟩, 5, by decide, by decide, ?_⟩, fun hge => by omega⟩
        · obtain rfl : q = 0 := by omega
          simp [ones, one, takeL, dropL, spliceL, lenL]
        · simp only [leS_mk, leL_cons, leL_nil, le_junk, le_int, le_bool, le_nil, leLL_nil, leLL_cons, leH_cons, leH_nil, leH1_box, leH1_own, leH1_gone, le_vs, le_agg, le_tup, le_ptr, le_own, le_xp, le_fn, le_opt, le_val, le_elem, le_nil_own, le_nil_vs, leH_ghost, leL_chunk, leXL_id, bnd_int, bnd_bool, bnd_val, bnd_nil, bnd_junk, bnd_vs, bnd_xp, bnd_agg, bnd_tup, bnd_ptr, bnd_own, bnd_elem, bnd_fn, bnd_iface, bnd_opt, bndL_nil, bndL_cons, lenH_cons, lenH_nil, imp_self, implies_true, true_and, and_true]
          refine ⟨⟨by decide, by decide, by decide +kernel⟩, fun q hq => ?_, by decide, fun q hq => ?_, by decide, fun q hq => ?_⟩
          · obtain rfl : q = 0 := by omega
            simp [takeL, dropL, spliceL, purgeL, purge, leL, le, refs, chunk]
          · rcases (by omega : q = 0 ∨ q = 1) with rfl | rfl <;> simp [takeL, dropL, spliceL, purgeL, purge, leL, le, refs, chunk]
          · rcases (by omega : q = 0 ∨ q = 1 ∨ q = 2 ∨ q = 3 ∨ q = 4) with rfl | rfl | rfl | rfl | rfl <;> simp [takeL, dropL, spliceL, purgeL, purge, leL, le, refs, chunk, fA]
      · refine ⟨fun _ => ⟨by decide, ⟨by decide, by decide⟩, ⟨by decide, by decide⟩, ⟨by decide, by simp [ones, one, takeL, dropL], by decide⟩, ⟨⟨by decide, by simp [ones, one, takeL, dropL, spliceL]⟩, by decide⟩, ⟨by unfold capOk; omega, fun q hq => ?_⟩, 6, by decide, by decide, ?_⟩, fun hge => by omega⟩
        · obtain rfl : q = 0 := by omega
          simp [ones, one, takeL, dropL, spliceL, lenL]
        · simp only [leS_mk, leL_cons, leL_nil, le_junk, le_int, le_bool, le_nil, leLL_nil, leLL_cons, leH_cons, leH_nil, leH1_box, leH1_own, leH1_gone, le_vs, le_agg, le_tup, le_ptr, le_own, le_xp, le_fn, le_opt, le_val, le_elem, le_nil_own, le_nil_vs, leH_ghost, leL_chunk, leXL_id, bnd_int, bnd_bool, bnd_val, bnd_nil, bnd_junk, bnd_vs, bnd_xp, bnd_agg, bnd_tup, bnd_ptr, bnd_own, bnd_elem, bnd_fn, bnd_iface, bnd_opt, bndL_nil, bndL_cons, lenH_cons, lenH_nil, imp_self, implies_true, true_and, and_true]
          refine ⟨⟨by decide, by decide, by decide +kernel⟩, fun q hq => ?_, by decide, fun q hq => ?_, by decide, fun q hq => ?_⟩
          · obtain rfl : q = 0 := by omega
            simp [takeL, dropL, spliceL, purgeL, purge, leL, le, refs, chunk]
          · rcases (by omega : q = 0 ∨ q = 1) with rfl | rfl <;> simp [takeL, dropL, spliceL, purgeL, purge, leL, le, refs, chunk]
          · rcases (by omega : q = 0 ∨ q = 1 ∨ q = 2 ∨ q = 3 ∨ q = 4 ∨ q = 5) with rfl | rfl | rfl | rfl | rfl | rfl <;> simp [takeL, dropL, spliceL, purgeL, purge, leL, le, refs, chunk, fA]
      · refine ⟨fun h => by omega, fun _ => ⟨bA 70, fA, ⟨⟨⟨rfl, rfl, rfl, rfl, rfl⟩, rfl, rfl, fun k hk => match k, hk with | 0, _ => ⟨⟨rfl, rfl⟩, ⟨rfl, rfl⟩, trivial⟩⟩, ⟨rfl, rfl, fun k hk => leXL_self _⟩, by decide⟩, by decide, by decide, fun z => ⟨by decide, by decide, ?_⟩⟩⟩
        rw [rows1, order1]
        refine ⟨fun hc => absurd hc (by decide), fun _ => ?_⟩
        refine ⟨fun _ => ⟨by decide, [0], [0], fun _ => ⟨⟨rfl, rfl, fun k hk => leXL_self _⟩, ⟨rfl, rfl, fun k hk => match k, hk with | 0, _ => ⟨⟨rfl, rfl⟩, trivial⟩⟩, by decide⟩, fun _ => ⟨by decide, rA, rA, fun _ => ⟨⟨rfl, rfl, fun k hk => leXL_self _⟩, ⟨rfl, rfl, fun k hk => match k, hk with | 0, _ => ⟨⟨rfl, rfl⟩, ⟨rfl, rfl⟩, ⟨rfl, rfl⟩, ⟨rfl, rfl⟩, trivial⟩ | 1, _ => ⟨⟨rfl, rfl⟩, ⟨rfl, rfl⟩, ⟨rfl, rfl⟩, ⟨rfl, rfl⟩, trivial⟩ | 2, _ => ⟨⟨rfl, rfl⟩, ⟨rfl, rfl⟩, ⟨rfl, rfl⟩, ⟨rfl, rfl⟩, trivial⟩ | 3, _ => ⟨⟨rfl, rfl⟩, ⟨rfl, rfl⟩, ⟨rfl, rfl⟩, ⟨rfl, rfl⟩, trivial⟩ | 4, _ => ⟨⟨rfl, rfl⟩, ⟨rfl, rfl⟩, ⟨rfl, rfl⟩, ⟨rfl, rfl⟩, trivial⟩ | 5, _ => ⟨⟨rfl, rfl⟩, ⟨rfl, rfl⟩, ⟨rfl, rfl⟩, ⟨rfl, rfl⟩, trivial⟩⟩, by decide⟩, fun _ => ⟨by decide, [0, 2, 4, 3, 1], [0, 2, 4, 3, 1], fun _ => ⟨⟨rfl, rfl, fun k hk => leXL_self _⟩, ⟨rfl, rfl, fun k hk => match k, hk with | 0, _ => ⟨⟨rfl, rfl⟩, trivial⟩ | 1, _ => ⟨⟨rfl, rfl⟩, trivial⟩ | 2, _ => ⟨⟨rfl, rfl⟩, trivial⟩ | 3, _ => ⟨⟨rfl, rfl⟩, trivial⟩ | 4, _ => ⟨⟨rfl, rfl⟩, trivial⟩⟩, by decide⟩, ?_⟩, fun hc => absurd hc (by decide)⟩, fun hc => absurd hc (by decide)⟩, fun hc => absurd hc (by decide)⟩
        exact ans_bool h
  · exact h.1.elim
end Go.Proofs.Ytojaibhjfeojjaa

/- Layouts, walked: the reference's checks. -/
set_option linter.all false
namespace Go.Proofs.Ytojaibhjfeojjaa
open Go Go.Vx
set_option maxRecDepth 100000
set_option maxHeartbeats 4000000

def v61 : VF := { ntmps := 15, res := [.tmp 6], body :=
 (.seq (.region [⟨(some 6), none, .mov, [.cn (.bool false)]⟩])
 (.seq (.region [⟨(some 7), none, .mov, [.tm 0]⟩,
  ⟨(some 8), none, .mov, [.tm 1]⟩,
  ⟨(some 9), none, (.cmp .geq), [.tm 7, .tm 8]⟩,
  ⟨(some 10), none, .mov, [.tm 9]⟩,
  ⟨(some 11), (some (10, true)), .mov, [.tm 0]⟩,
  ⟨(some 12), (some (10, true)), .mov, [.tm 2]⟩,
  ⟨(some 13), (some (10, true)), (.cmp .leq), [.tm 11, .tm 12]⟩,
  ⟨(some 14), none, .and, [.tm 10, .tm 13]⟩,
  ⟨(some 6), none, .mov, [.tm 14]⟩])
 .ret)) }
theorem v61_is : vfunc Try.prog Try.f61 = some v61 := by kernel_rfl
def v39 : VF := { ntmps := 57, res := [.tmp 2], body :=
 (.seq (.region [⟨(some 1), none, .box, [.tm 0]⟩,
  ⟨(some 2), none, .mov, [.cn (.bool false)]⟩])
 (.seq (.seq (.region [⟨(some 4), none, (.fieldAddr 0), [.tm 1]⟩,
  ⟨(some 5), none, (.load false 1), [.tm 4]⟩,
  ⟨(some 6), none, (.call 61), [.tm 5, .cn (.int .i64 1), .cn (.int .i64 10000000)]⟩,
  ⟨(some 7), none, .not, [.tm 6]⟩,
  ⟨(some 8), none, .mov, [.tm 7]⟩,
  ⟨(some 9), (some (8, false)), (.fieldAddr 1), [.tm 1]⟩,
  ⟨(some 10), (some (8, false)), (.load false 1), [.tm 9]⟩,
  ⟨(some 11), (some (8, false)), (.call 61), [.tm 10, .cn (.int .i64 1), .cn (.int .i64 10000000)]⟩,
  ⟨(some 12), (some (8, false)), .not, [.tm 11]⟩,
  ⟨(some 13), none, .or, [.tm 8, .tm 12]⟩,
  ⟨(some 14), none, .mov, [.tm 13]⟩,
  ⟨(some 15), (some (14, false)), (.fieldAddr 2), [.tm 1]⟩,
  ⟨(some 16), (some (14, false)), (.load false 1), [.tm 15]⟩,
  ⟨(some 17), (some (14, false)), (.call 61), [.tm 16, .cn (.int .i64 0), .cn (.int .i64 1000000)]⟩,
  ⟨(some 18), (some (14, false)), .not, [.tm 17]⟩,
  ⟨(some 19), none, .or, [.tm 14, .tm 18]⟩,
  ⟨(some 20), none, .mov, [.tm 19]⟩,
  ⟨(some 21), (some (20, false)), (.fieldAddr 4), [.tm 1]⟩,
  ⟨(some 22), (some (20, false)), (.load false 1), [.tm 21]⟩,
  ⟨(some 23), (some (20, false)), (.call 61), [.tm 22, .cn (.int .i64 0), .cn (.int .i64 1000000)]⟩,
  ⟨(some 24), (some (20, false)), .not, [.tm 23]⟩,
  ⟨(some 25), none, .or, [.tm 20, .tm 24]⟩,
  ⟨(some 26), none, .mov, [.tm 25]⟩,
  ⟨(some 27), (some (26, false)), (.fieldAddr 3), [.tm 1]⟩,
  ⟨(some 28), (some (26, false)), (.load false 1), [.tm 27]⟩,
  ⟨(some 29), (some (26, false)), (.call 61), [.tm 28, .cn (.int .i64 1), .cn (.int .i64 10000000)]⟩,
  ⟨(some 30), (some (26, false)), .not, [.tm 29]⟩,
  ⟨(some 31), none, .or, [.tm 26, .tm 30]⟩])
 (.cond (.tm 31) (.seq (.region [⟨(some 2), none, .mov, [.cn (.bool false)]⟩])
 .ret)
  .skip))
 (.seq (.seq (.region [⟨(some 3), none, .mov, [.cn (.int .i64 0)]⟩])
 (.block 0 (.loop (.seq (.seq (.region [⟨(some 32), none, .mov, [.tm 3]⟩,
  ⟨(some 33), none, (.fieldAddr 5), [.tm 1]⟩,
  ⟨(some 34), none, (.load false 1), [.tm 33]⟩,
  ⟨(some 35), none, .len, [.tm 34]⟩,
  ⟨(some 36), none, (.cmp .lss), [.tm 32, .tm 35]⟩])
 (.cond (.tm 36) .skip
  (.exit 0)))
 (.seq (.block 1 (.seq (.region [⟨(some 39), none, (.fieldAddr 5), [.tm 1]⟩,
  ⟨(some 40), none, (.load false 1), [.tm 39]⟩,
  ⟨(some 41), none, .mov, [.tm 3]⟩,
  ⟨(some 42), none, (.idxAddr 2), [.tm 40, .tm 41]⟩,
  ⟨(some 43), none, (.fieldAddr 0), [.tm 42]⟩,
  ⟨(some 44), none, (.load false 1), [.tm 43]⟩,
  ⟨(some 45), none, (.call 61), [.tm 44, .cn (.int .i64 (-10000000)), .cn (.int .i64 20000000)]⟩,
  ⟨(some 46), none, .not, [.tm 45]⟩,
  ⟨(some 47), none, .mov, [.tm 46]⟩,
  ⟨(some 48), (some (47, false)), (.fieldAddr 5), [.tm 1]⟩,
  ⟨(some 49), (some (47, false)), (.load false 1), [.tm 48]⟩,
  ⟨(some 50), (some (47, false)), .mov, [.tm 3]⟩,
  ⟨(some 51), (some (47, false)), (.idxAddr 2), [.tm 49, .tm 50]⟩,
  ⟨(some 52), (some (47, false)), (.fieldAddr 1), [.tm 51]⟩,
  ⟨(some 53), (some (47, false)), (.load false 1), [.tm 52]⟩,
  ⟨(some 54), (some (47, false)), (.call 61), [.tm 53, .cn (.int .i64 (-10000000)), .cn (.int .i64 20000000)]⟩,
  ⟨(some 55), (some (47, false)), .not, [.tm 54]⟩,
  ⟨(some 56), none, .or, [.tm 47, .tm 55]⟩])
 (.cond (.tm 56) (.seq (.region [⟨(some 2), none, .mov, [.cn (.bool false)]⟩])
 .ret)
  .skip)))
 (.region [⟨(some 37), none, .mov, [.tm 3]⟩,
  ⟨(some 38), none, (.ari .add), [.tm 37, .cn (.int .i64 1)]⟩,
  ⟨(some 3), none, .mov, [.tm 38]⟩]))))))
 (.seq (.region [⟨(some 2), none, .mov, [.cn (.bool true)]⟩])
 .ret)))) }
theorem v39_is : vfunc Try.prog Try.f39 = some v39 := by kernel_rfl
def v40 : VF := { ntmps := 11, res := [.tmp 4], body :=
 (.seq (.region [⟨(some 4), none, .mov, [.cn (.bool false)]⟩])
 (.seq (.region [⟨(some 5), none, .mov, [.tm 0]⟩,
  ⟨(some 6), none, (.call 61), [.tm 5, .cn (.int .i64 1), .cn (.int .i64 1000000)]⟩,
  ⟨(some 7), none, .mov, [.tm 6]⟩,
  ⟨(some 8), (some (7, true)), .mov, [.tm 1]⟩,
  ⟨(some 9), (some (7, true)), (.call 61), [.tm 8, .cn (.int .i64 1), .cn (.int .i64 12000000)]⟩,
  ⟨(some 10), none, .and, [.tm 7, .tm 9]⟩,
  ⟨(some 4), none, .mov, [.tm 10]⟩])
 .ret)) }
theorem v40_is : vfunc Try.prog Try.f40 = some v40 := by kernel_rfl
def v46 : VF := { ntmps := 54, res := [.tmp 4], body :=
 (.seq (.region [⟨(some 2), none, .box, [.tm 0]⟩,
  ⟨(some 4), none, .mov, [.cn (.int .i64 0)]⟩])
 (.seq (.seq (.region [⟨(some 6), none, (.fieldAddr 5), [.tm 2]⟩,
  ⟨(some 7), none, (.load false 1), [.tm 6]⟩,
  ⟨(some 8), none, .len, [.tm 7]⟩,
  ⟨(some 9), none, (.cmp .gtr), [.tm 8, .cn (.int .i64 8)]⟩,
  ⟨(some 10), none, .mov, [.tm 9]⟩,
  ⟨(some 11), (some (10, false)), .mov, [.tm 1]⟩,
  ⟨(some 12), (some (10, false)), .len, [.tm 11]⟩,
  ⟨(some 13), (some (10, false)), (.cmp .gtr), [.tm 12, .cn (.int .i64 200)]⟩,
  ⟨(some 14), none, .or, [.tm 10, .tm 13]⟩])
 (.cond (.tm 14) (.seq (.region [⟨(some 4), none, .mov, [.cn (.int .i64 3)]⟩])
 .ret)
  .skip))
 (.seq (.seq (.region [⟨(some 15), none, (.load true 6), [.tm 2]⟩,
  ⟨(some 16), none, (.call 39), [.tm 15]⟩,
  ⟨(some 17), none, .not, [.tm 16]⟩])
 (.cond (.tm 17) (.seq (.region [⟨(some 4), none, .mov, [.cn (.int .i64 2)]⟩])
 .ret)
  .skip))
 (.seq (.seq (.region [⟨(some 5), none, .mov, [.cn (.int .i64 0)]⟩])
 (.block 0 (.loop (.seq (.seq (.region [⟨(some 18), none, .mov, [.tm 5]⟩,
  ⟨(some 19), none, .mov, [.tm 1]⟩,
  ⟨(some 20), none, .len, [.tm 19]⟩,
  ⟨(some 21), none, (.cmp .lss), [.tm 18, .tm 20]⟩])
 (.cond (.tm 21) .skip
  (.exit 0)))
 (.seq (.block 1 (.seq (.draw [] [⟨⟨(some 24), none, .mov, [.tm 1]⟩, []⟩,
  ⟨⟨(some 25), none, .mov, [.tm 5]⟩, []⟩,
  ⟨⟨(some 26), none, (.idxAddr 4), [.tm 24, .tm 25]⟩, []⟩,
  ⟨⟨(some 27), none, (.fieldAddr 2), [.tm 26]⟩, []⟩,
  ⟨⟨(some 28), none, (.load false 1), [.tm 27]⟩, []⟩,
  ⟨⟨(some 29), none, .mov, [.tm 1]⟩, []⟩,
  ⟨⟨(some 30), none, .mov, [.tm 5]⟩, []⟩,
  ⟨⟨(some 31), none, (.idxAddr 4), [.tm 29, .tm 30]⟩, []⟩,
  ⟨⟨(some 32), none, (.fieldAddr 3), [.tm 31]⟩, []⟩,
  ⟨⟨(some 33), none, (.load false 1), [.tm 32]⟩, []⟩,
  ⟨⟨(some 34), none, (.call 40), [.tm 28, .tm 33]⟩, []⟩,
  ⟨⟨(some 35), none, .not, [.tm 34]⟩, []⟩,
  ⟨⟨(some 36), none, .mov, [.tm 35]⟩, []⟩,
  ⟨⟨(some 37), (some (36, false)), .mov, [.tm 1]⟩, []⟩,
  ⟨⟨(some 38), (some (36, false)), .mov, [.tm 5]⟩, []⟩,
  ⟨⟨(some 39), (some (36, false)), (.idxAddr 4), [.tm 37, .tm 38]⟩, []⟩,
  ⟨⟨(some 40), (some (36, false)), (.fieldAddr 0), [.tm 39]⟩, []⟩,
  ⟨⟨(some 41), (some (36, false)), (.load false 1), [.tm 40]⟩, []⟩,
  ⟨⟨(some 42), (some (36, false)), (.call 61), [.tm 41, .cn (.int .i64 0), .cn (.int .i64 10000000)]⟩, []⟩,
  ⟨⟨(some 43), (some (36, false)), .not, [.tm 42]⟩, []⟩,
  ⟨⟨(some 44), none, .or, [.tm 36, .tm 43]⟩, []⟩,
  ⟨⟨(some 45), none, .mov, [.tm 44]⟩, []⟩,
  ⟨⟨(some 46), (some (45, false)), .mov, [.tm 1]⟩, []⟩,
  ⟨⟨(some 47), (some (45, false)), .mov, [.tm 5]⟩, []⟩,
  ⟨⟨(some 48), (some (45, false)), (.idxAddr 4), [.tm 46, .tm 47]⟩, []⟩,
  ⟨⟨(some 49), (some (45, false)), (.fieldAddr 1), [.tm 48]⟩, []⟩,
  ⟨⟨(some 50), (some (45, false)), (.load false 1), [.tm 49]⟩, []⟩,
  ⟨⟨(some 51), (some (45, false)), (.call 61), [.tm 50, .cn (.int .i64 0), .cn (.int .i64 10000000)]⟩, []⟩,
  ⟨⟨(some 52), (some (45, false)), .not, [.tm 51]⟩, []⟩,
  ⟨⟨(some 53), none, .or, [.tm 45, .tm 52]⟩, []⟩])
 (.cond (.tm 53) (.seq (.region [⟨(some 4), none, .mov, [.cn (.int .i64 2)]⟩])
 .ret)
  .skip)))
 (.region [⟨(some 22), none, .mov, [.tm 5]⟩,
  ⟨(some 23), none, (.ari .add), [.tm 22, .cn (.int .i64 1)]⟩,
  ⟨(some 5), none, .mov, [.tm 23]⟩]))))))
 (.seq (.region [⟨(some 4), none, .mov, [.cn (.int .i64 0)]⟩])
 .ret))))) }
theorem v46_is : vfunc Try.prog Try.f46 = some v46 := by kernel_rfl


def frC : Ctr := { alias := false, of := fun l => match l with
  | [.int .i64 n, .int .i64 lo, .int .i64 hi] => .fin (.bool (!outF n lo hi)) []
  | _ => noC }
def N0 : Env := { ct := fun _ => none, fn := fun _ => none, meth := fun _ _ => none }
theorem N0_ok : EnvOk Try.prog N0 := by
  refine ⟨fun f c h => ?_, fun f vf h => ?_, (fun _ _ _ h => by cases h), by kernel_rfl⟩
  · cases h
  · cases h

theorem fr_ok : frC.ok Try.prog 61 := by
  refine contract Try.func61 v61_is N0_ok 100 frC fun args k h => ⟨args, ?_⟩
  simp only [frC] at h
  split at h
  · rename_i n lo hi
    refine ⟨by simp [leL, le], ?_⟩
    dsimp only [v61, go_sem, Option.bind, Option.map, List.append_nil, Nat.beq, List.cons_append, List.nil_append, List.append_eq, List.map_cons, List.map_nil, ite_self, reduceIte]
    simp only [true_and, and_true, imp_self, implies_true, decide_eq_true_eq, decide_eq_false_iff_not, Nat.reduceAdd, Nat.reduceLeDiff, Bool.not_not, reduceCtorEq, false_imp_iff, Bool.not_eq_true', Bool.not_eq_false', Bool.false_eq_true, and_self, forall_const, ne_eq, not_false_eq_true, Nat.reduceEqDiff]
    have h : k _ [] := h
    have e : (!outF n lo hi) = (decide (lo ≤ n) && decide (n ≤ hi)) := by
      rw [Bool.eq_iff_iff]; simp only [outF, Bool.not_eq_true', Bool.or_eq_false_iff, Bool.and_eq_true, decide_eq_true_eq, decide_eq_false_iff_not]; omega
    rw [e] at h
    exact ans_bool h
  · exact h.1.elim
def rftC : Ctr := { alias := false, of := fun l => match l with
  | [.int .i64 r, .int .i64 h] => .fin (.bool (!footF r h)) []
  | _ => noC }
def N1 : Env := { ct := fun n => match n with | 61 => some frC | _ => none, fn := fun _ => none, meth := fun _ _ => none }
theorem N1_ct61 : N1.ct 61 = some frC := rfl
theorem N1_ok : EnvOk Try.prog N1 := by
  refine ⟨fun f c h => ?_, fun f vf h => ?_, (fun _ _ _ h => by cases h), by kernel_rfl⟩
  · simp only [N1] at h
    split at h
    · cases h; exact ⟨fr_ok, Try.f61, Try.func61, by kernel_rfl, by kernel_rfl⟩
    · cases h
  · cases h

theorem rft_ok : rftC.ok Try.prog 40 := by
  refine contract Try.func40 v40_is N1_ok 100 rftC fun args k h => ⟨args, ?_⟩
  simp only [rftC] at h
  split at h
  · rename_i r hh
    refine ⟨by simp [leL, le], ?_⟩
    dsimp only [v40, N1_ct61, frC, go_sem, Option.bind, Option.map, List.append_nil, Nat.beq, List.cons_append, List.nil_append, List.append_eq, List.map_cons, List.map_nil, ite_self, reduceIte]
    simp only [true_and, and_true, imp_self, implies_true, decide_eq_true_eq, decide_eq_false_iff_not, Nat.reduceAdd, Nat.reduceLeDiff, Bool.not_not, reduceCtorEq, false_imp_iff, Bool.not_eq_true', Bool.not_eq_false', Bool.false_eq_true, and_self, forall_const, ne_eq, not_false_eq_true, Nat.reduceEqDiff]
    have h : k _ [] := h
    rw [footF, Bool.not_or] at h
    exact ans_bool h
  · exact h.1.elim
def rbdC : Ctr := { alias := false, of := fun l => match l with
  | [.agg [.int .i64 w, .int .i64 d, .int .i64 c, .int .i64 a, .int .i64 s, .vs _ _ n sz get]] => .ex Brd fun b => .pre (brdP b w d c a s n sz get ∧ b.wk.length ≤ 8) (.fin (.bool (!wrongF b)) [])
  | _ => noC }
theorem rbd_ok : rbdC.ok Try.prog 39 := by
  refine contract Try.func39 v39_is N1_ok 100 rbdC fun args k h => ?_
  simp only [rbdC] at h
  split at h
  · rename_i w d c a s t z n sz get
    obtain ⟨b, ⟨hb, h8⟩, h⟩ := h
    refine ⟨[.agg (encB t z b)], ⟨brd_le hb, trivial⟩, ?_⟩
    have h : k (.bool (!wrongF b)) [] := h
    dsimp only [v39, N1_ct61, frC, encB, encT, go_sem, Option.bind, Option.map, List.append_nil, Nat.beq, List.cons_append, List.nil_append, List.append_eq, List.map_cons, List.map_nil, ite_self, reduceIte]
    simp only [true_and, and_true, imp_self, implies_true, decide_eq_true_eq, decide_eq_false_iff_not, Nat.reduceAdd, Nat.reduceLeDiff, Bool.not_not, reduceCtorEq, false_imp_iff, Bool.not_eq_true', Bool.not_eq_false', Bool.false_eq_true, and_self, forall_const, ne_eq, not_false_eq_true, Nat.reduceEqDiff]
    refine ⟨fun hc => ?_, fun hc => ?_⟩
    · have e : wrongF b = true := by rw [wrongF, hc]; rfl
      rw [e] at h; exact ans_bool h
    · refine Loop.keep [1, 1] Nat (fun i => [(3, .int .i64 i)]) (fun _ => []) [] (fun i => i ≤ b.wk.length ∧ ∀ j, j < i → placeF (b.wk.getD j default) = false) (fun i => b.wk.length - i) ?_ ?_
      · refine ⟨0, ⟨Nat.zero_le _, fun j h => by omega⟩, ?_⟩
        dsimp only [go_sem, Option.bind, Option.map, List.append_nil, Nat.beq, List.cons_append, List.nil_append, List.append_eq, List.map_cons, List.map_nil, ite_self, reduceIte]
        simp only [leS_mk, leL_cons, leL_nil, le_junk, le_int, le_bool, le_nil, leLL_nil, leLL_cons, leH_cons, leH_nil, leH1_box, leH1_own, leH1_gone, le_vs, le_agg, le_tup, le_ptr, le_own, le_xp, le_fn, le_opt, le_val, le_elem, le_nil_own, le_nil_vs, leH_ghost, leL_chunk, leXL_id, bnd_int, bnd_bool, bnd_val, bnd_nil, bnd_junk, bnd_vs, bnd_xp, bnd_agg, bnd_tup, bnd_ptr, bnd_own, bnd_elem, bnd_fn, bnd_iface, bnd_opt, bndL_nil, bndL_cons, lenH_cons, lenH_nil, imp_self, implies_true, true_and, and_true]
        simp
      · rintro i ⟨hi, ha⟩
        dsimp only [N1_ct61, frC, Int.toNat_natCast, go_sem, Option.bind, Option.map, List.append_nil, Nat.beq, List.cons_append, List.nil_append, List.append_eq, List.map_cons, List.map_nil, ite_self, reduceIte]
        simp only [true_and, and_true, imp_self, implies_true, decide_eq_true_eq, decide_eq_false_iff_not, Nat.reduceAdd, Nat.reduceLeDiff, Bool.not_not, reduceCtorEq, false_imp_iff, Bool.not_eq_true', Bool.not_eq_false', Bool.false_eq_true, and_self, forall_const, ne_eq, not_false_eq_true, Nat.reduceEqDiff]
        refine ⟨fun hlt => ⟨⟨by omega, hlt⟩, fun _ => ⟨by omega, hlt⟩, fun hp => ?_, fun hp => ?_⟩, fun hge => ?_⟩
        · have e : wrongF b = true := by
            rw [wrongF, List.any_eq_true.2 ⟨_, getD_mem (show i < b.wk.length by omega), hp⟩, Bool.or_true]
          rw [e] at h; exact ans_bool h
        · refine ⟨i + 1, ⟨by omega, fun j hj => ?_⟩, by omega, ?_⟩
          · rcases Nat.lt_or_ge j i with h' | h'
            · exact ha j h'
            · obtain rfl : j = i := by omega
              exact hp
          · simp only [w_succ (i := i) (n := b.wk.length) (by omega) (by omega), leS_mk, leL_cons, leL_nil, le_junk, le_int, le_bool, le_nil, leLL_nil, leLL_cons, leH_cons, leH_nil, leH1_box, leH1_own, leH1_gone, le_vs, le_agg, le_tup, le_ptr, le_own, le_xp, le_fn, le_opt, le_val, le_elem, le_nil_own, le_nil_vs, leH_ghost, leL_chunk, leXL_id, bnd_int, bnd_bool, bnd_val, bnd_nil, bnd_junk, bnd_vs, bnd_xp, bnd_agg, bnd_tup, bnd_ptr, bnd_own, bnd_elem, bnd_fn, bnd_iface, bnd_opt, bndL_nil, bndL_cons, lenH_cons, lenH_nil, imp_self, implies_true, true_and, and_true] <;> simp
        · have e : wrongF b = false := by
            rw [wrongF, hc, Bool.false_or]
            refine List.any_eq_false.2 fun x hx => ?_
            obtain ⟨j, hj, rfl⟩ := mem_getD hx
            rw [ha j (by omega)]; simp
          rw [e] at h; exact ans_bool h
  · exact h.1.elim
def N2 : Env := { ct := fun n => match n with | 61 => some frC | 40 => some rftC | 39 => some rbdC | _ => none, fn := fun _ => none, meth := fun _ _ => none }
theorem N2_ct61 : N2.ct 61 = some frC := rfl
theorem N2_ct40 : N2.ct 40 = some rftC := rfl
theorem N2_ct39 : N2.ct 39 = some rbdC := rfl
theorem N2_ok : EnvOk Try.prog N2 := by
  refine ⟨fun f c h => ?_, fun f vf h => ?_, (fun _ _ _ h => by cases h), by kernel_rfl⟩
  · simp only [N2] at h
    split at h
    · cases h; exact ⟨fr_ok, Try.f61, Try.func61, by kernel_rfl, by kernel_rfl⟩
    · cases h; exact ⟨rft_ok, Try.f40, Try.func40, by kernel_rfl, by kernel_rfl⟩
    · cases h; exact ⟨rbd_ok, Try.f39, Try.func39, by kernel_rfl, by kernel_rfl⟩
    · cases h
  · cases h

theorem val_ok : chC.ok Try.prog 46 := by
  refine contract Try.func46 v46_is N2_ok 200 chC fun args k h => ?_
  simp only [chC] at h
  split at h
  · rename_i w d c a s t z n sz get t' z' n' sz' get'
    obtain ⟨b, l, ⟨hb, rfl, rfl, hg⟩, h⟩ := h
    refine ⟨[.agg (encB t z b), .vs t' z' l.length 4 (fun k => encS (l.getD k default))], ⟨brd_le hb, by simpa [le] using hg, trivial⟩, ?_⟩
    have h : k (.int .i64 (chkF b l)) [] := h
    dsimp only [v46, N2_ct39, rbdC, encB, encT, encS, go_sem, Option.bind, Option.map, List.append_nil, Nat.beq, List.cons_append, List.nil_append, List.append_eq, List.map_cons, List.map_nil, ite_self, reduceIte]
    simp only [true_and, and_true, imp_self, implies_true, decide_eq_true_eq, decide_eq_false_iff_not, Nat.reduceAdd, Nat.reduceLeDiff, Bool.not_not, reduceCtorEq, false_imp_iff, Bool.not_eq_true', Bool.not_eq_false', Bool.false_eq_true, and_self, forall_const, ne_eq, not_false_eq_true, Nat.reduceEqDiff]
    unfold chkF at h
    refine ⟨fun hb => ?_, fun hb => ?_⟩
    · simp only [Bool.or_eq_true, decide_eq_true_eq] at hb
      rw [if_pos (by omega)] at h
      exact ans_int h
    · simp only [Bool.or_eq_false_iff, decide_eq_false_iff_not] at hb
      rw [if_neg (by omega)] at h
      refine ⟨b, ⟨brdP_self b, by omega⟩, fun hc => ?_, fun hc => ?_⟩
      · rw [if_pos (by rw [hc]; rfl)] at h
        exact ans_int h
      · refine Loop.keep [1, 3] Nat (fun i => [(5, .int .i64 i)]) (fun _ => []) [] (fun i => i ≤ l.length ∧ ∀ j, j < i → pipeF (l.getD j default) = false) (fun i => l.length - i) ?_ ?_
        · refine ⟨0, ⟨Nat.zero_le _, fun j h => by omega⟩, ?_⟩
          dsimp only [go_sem, Option.bind, Option.map, List.append_nil, Nat.beq, List.cons_append, List.nil_append, List.append_eq, List.map_cons, List.map_nil, ite_self, reduceIte]
          simp only [leS_mk, leL_cons, leL_nil, le_junk, le_int, le_bool, le_nil, leLL_nil, leLL_cons, leH_cons, leH_nil, leH1_box, leH1_own, leH1_gone, le_vs, le_agg, le_tup, le_ptr, le_own, le_xp, le_fn, le_opt, le_val, le_elem, le_nil_own, le_nil_vs, leH_ghost, leL_chunk, leXL_id, bnd_int, bnd_bool, bnd_val, bnd_nil, bnd_junk, bnd_vs, bnd_xp, bnd_agg, bnd_tup, bnd_ptr, bnd_own, bnd_elem, bnd_fn, bnd_iface, bnd_opt, bndL_nil, bndL_cons, lenH_cons, lenH_nil, imp_self, implies_true, true_and, and_true]
          simp
        · rintro i ⟨hi, ha⟩
          dsimp only [N2_ct61, N2_ct40, frC, rftC, encS, Int.toNat_natCast, go_sem, Option.bind, Option.map, List.append_nil, Nat.beq, List.cons_append, List.nil_append, List.append_eq, List.map_cons, List.map_nil, ite_self, reduceIte]
          simp only [true_and, and_true, imp_self, implies_true, decide_eq_true_eq, decide_eq_false_iff_not, Nat.reduceAdd, Nat.reduceLeDiff, Bool.not_not, reduceCtorEq, false_imp_iff, Bool.not_eq_true', Bool.not_eq_false', Bool.false_eq_true, and_self, forall_const, ne_eq, not_false_eq_true, Nat.reduceEqDiff]
          have e : ∀ p : Std, pipeF p = (footF p.r p.h || outF p.x 0 10000000 || outF p.y 0 10000000) := fun p => rfl
          refine ⟨fun hlt => ?_, fun hge => ?_⟩
          · refine ⟨⟨by omega, hlt⟩, ⟨by omega, hlt⟩, fun _ => ⟨by omega, hlt⟩, fun _ => ⟨by omega, hlt⟩, fun hp => ?_, fun hp => ?_⟩
            · rw [← e] at hp
              rw [if_pos (by rw [List.any_eq_true.2 ⟨_, getD_mem (show i < l.length by omega), hp⟩, Bool.or_true])] at h
              exact ans_int h
            · refine ⟨i + 1, ⟨by omega, fun j hj => ?_⟩, by omega, ?_⟩
              · rcases Nat.lt_or_ge j i with h' | h'
                · exact ha j h'
                · obtain rfl : j = i := by omega
                  rw [e]; exact hp
              · simp only [w_succ (i := i) (n := l.length) (by omega) (by omega), leS_mk, leL_cons, leL_nil, le_junk, le_int, le_bool, le_nil, leLL_nil, leLL_cons, leH_cons, leH_nil, leH1_box, leH1_own, leH1_gone, le_vs, le_agg, le_tup, le_ptr, le_own, le_xp, le_fn, le_opt, le_val, le_elem, le_nil_own, le_nil_vs, leH_ghost, leL_chunk, leXL_id, bnd_int, bnd_bool, bnd_val, bnd_nil, bnd_junk, bnd_vs, bnd_xp, bnd_agg, bnd_tup, bnd_ptr, bnd_own, bnd_elem, bnd_fn, bnd_iface, bnd_opt, bndL_nil, bndL_cons, lenH_cons, lenH_nil, imp_self, implies_true, true_and, and_true] <;> simp
          · rw [if_neg] at h
            · exact ans_int h
            · rw [hc, Bool.false_or, Bool.not_eq_true]
              refine List.any_eq_false.2 fun x hx => ?_
              obtain ⟨j, hj, rfl⟩ := mem_getD hx
              rw [ha j (by omega)]; simp
  · exact h.1.elim
end Go.Proofs.Ytojaibhjfeojjaa

/- Layouts, walked: the reference's Check. -/
set_option linter.all false
namespace Go.Proofs.Ytojaibhjfeojjaa
open Go Go.Vx
set_option maxRecDepth 100000
set_option maxHeartbeats 4000000

def v74 : VF := { ntmps := 24, res := [.tmp 8], body :=
 (.seq (.region [⟨(some 8), none, .mov, [.cn (.int .i64 0)]⟩])
 (.seq (.region [⟨(some 9), none, .mov, [.tm 0]⟩,
  ⟨(some 10), none, .mov, [.tm 2]⟩,
  ⟨(some 11), none, (.ari .sub), [.tm 9, .tm 10]⟩,
  ⟨(some 12), none, .mov, [.tm 0]⟩,
  ⟨(some 13), none, .mov, [.tm 2]⟩,
  ⟨(some 14), none, (.ari .sub), [.tm 12, .tm 13]⟩,
  ⟨(some 15), none, (.ari .mul), [.tm 11, .tm 14]⟩,
  ⟨(some 16), none, .mov, [.tm 1]⟩,
  ⟨(some 17), none, .mov, [.tm 3]⟩,
  ⟨(some 18), none, (.ari .sub), [.tm 16, .tm 17]⟩,
  ⟨(some 19), none, .mov, [.tm 1]⟩,
  ⟨(some 20), none, .mov, [.tm 3]⟩,
  ⟨(some 21), none, (.ari .sub), [.tm 19, .tm 20]⟩,
  ⟨(some 22), none, (.ari .mul), [.tm 18, .tm 21]⟩,
  ⟨(some 23), none, (.ari .add), [.tm 15, .tm 22]⟩,
  ⟨(some 8), none, .mov, [.tm 23]⟩])
 .ret)) }
theorem v74_is : vfunc Try.prog Try.f74 = some v74 := by kernel_rfl
def v55 : VF := { ntmps := 29, res := [.tmp 6], body :=
 (.seq (.region [⟨(some 3), none, .box, [.tm 0]⟩,
  ⟨(some 4), none, .box, [.tm 1]⟩,
  ⟨(some 5), none, .box, [.tm 2]⟩,
  ⟨(some 6), none, .mov, [.cn (.bool false)]⟩])
 (.seq (.region [⟨(some 8), none, (.fieldAddr 2), [.tm 4]⟩,
  ⟨(some 9), none, (.load false 1), [.tm 8]⟩,
  ⟨(some 10), none, (.fieldAddr 2), [.tm 5]⟩,
  ⟨(some 11), none, (.load false 1), [.tm 10]⟩,
  ⟨(some 12), none, (.ari .add), [.tm 9, .tm 11]⟩,
  ⟨(some 13), none, (.fieldAddr 2), [.tm 3]⟩,
  ⟨(some 14), none, (.load false 1), [.tm 13]⟩,
  ⟨(some 15), none, (.ari .add), [.tm 12, .tm 14]⟩,
  ⟨(some 7), none, .mov, [.tm 15]⟩])
 (.seq (.region [⟨(some 16), none, (.fieldAddr 0), [.tm 4]⟩,
  ⟨(some 17), none, (.load false 1), [.tm 16]⟩,
  ⟨(some 18), none, (.fieldAddr 1), [.tm 4]⟩,
  ⟨(some 19), none, (.load false 1), [.tm 18]⟩,
  ⟨(some 20), none, (.fieldAddr 0), [.tm 5]⟩,
  ⟨(some 21), none, (.load false 1), [.tm 20]⟩,
  ⟨(some 22), none, (.fieldAddr 1), [.tm 5]⟩,
  ⟨(some 23), none, (.load false 1), [.tm 22]⟩,
  ⟨(some 24), none, (.call 74), [.tm 17, .tm 19, .tm 21, .tm 23]⟩,
  ⟨(some 25), none, .mov, [.tm 7]⟩,
  ⟨(some 26), none, .mov, [.tm 7]⟩,
  ⟨(some 27), none, (.ari .mul), [.tm 25, .tm 26]⟩,
  ⟨(some 28), none, (.cmp .lss), [.tm 24, .tm 27]⟩,
  ⟨(some 6), none, .mov, [.tm 28]⟩])
 .ret))) }
theorem v55_is : vfunc Try.prog Try.f55 = some v55 := by kernel_rfl
def v54 : VF := { ntmps := 37, res := [.tmp 4], body :=
 (.seq (.region [⟨(some 2), none, .box, [.tm 0]⟩,
  ⟨(some 3), none, .box, [.tm 1]⟩,
  ⟨(some 4), none, .mov, [.cn (.bool false)]⟩])
 (.seq (.region [⟨(some 5), none, (.fieldAddr 0), [.tm 3]⟩,
  ⟨(some 6), none, (.load false 1), [.tm 5]⟩,
  ⟨(some 7), none, (.fieldAddr 2), [.tm 3]⟩,
  ⟨(some 8), none, (.load false 1), [.tm 7]⟩,
  ⟨(some 9), none, (.cmp .geq), [.tm 6, .tm 8]⟩,
  ⟨(some 10), none, .mov, [.tm 9]⟩,
  ⟨(some 11), (some (10, true)), (.fieldAddr 0), [.tm 3]⟩,
  ⟨(some 12), (some (10, true)), (.load false 1), [.tm 11]⟩,
  ⟨(some 13), (some (10, true)), (.fieldAddr 2), [.tm 3]⟩,
  ⟨(some 14), (some (10, true)), (.load false 1), [.tm 13]⟩,
  ⟨(some 15), (some (10, true)), (.ari .add), [.tm 12, .tm 14]⟩,
  ⟨(some 16), (some (10, true)), (.fieldAddr 0), [.tm 2]⟩,
  ⟨(some 17), (some (10, true)), (.load false 1), [.tm 16]⟩,
  ⟨(some 18), (some (10, true)), (.cmp .leq), [.tm 15, .tm 17]⟩,
  ⟨(some 19), none, .and, [.tm 10, .tm 18]⟩,
  ⟨(some 20), none, .mov, [.tm 19]⟩,
  ⟨(some 21), (some (20, true)), (.fieldAddr 1), [.tm 3]⟩,
  ⟨(some 22), (some (20, true)), (.load false 1), [.tm 21]⟩,
  ⟨(some 23), (some (20, true)), (.fieldAddr 2), [.tm 3]⟩,
  ⟨(some 24), (some (20, true)), (.load false 1), [.tm 23]⟩,
  ⟨(some 25), (some (20, true)), (.cmp .geq), [.tm 22, .tm 24]⟩,
  ⟨(some 26), none, .and, [.tm 20, .tm 25]⟩,
  ⟨(some 27), none, .mov, [.tm 26]⟩,
  ⟨(some 28), (some (27, true)), (.fieldAddr 1), [.tm 3]⟩,
  ⟨(some 29), (some (27, true)), (.load false 1), [.tm 28]⟩,
  ⟨(some 30), (some (27, true)), (.fieldAddr 2), [.tm 3]⟩,
  ⟨(some 31), (some (27, true)), (.load false 1), [.tm 30]⟩,
  ⟨(some 32), (some (27, true)), (.ari .add), [.tm 29, .tm 31]⟩,
  ⟨(some 33), (some (27, true)), (.fieldAddr 1), [.tm 2]⟩,
  ⟨(some 34), (some (27, true)), (.load false 1), [.tm 33]⟩,
  ⟨(some 35), (some (27, true)), (.cmp .leq), [.tm 32, .tm 34]⟩,
  ⟨(some 36), none, .and, [.tm 27, .tm 35]⟩,
  ⟨(some 4), none, .mov, [.tm 36]⟩])
 .ret)) }
theorem v54_is : vfunc Try.prog Try.f54 = some v54 := by kernel_rfl
def v31 : VF := { ntmps := 59, res := [.tmp 4], body :=
 (.seq (.region [⟨(some 2), none, .box, [.tm 0]⟩,
  ⟨(some 4), none, .mov, [.cn (.int .i64 0)]⟩])
 (.seq (.region [⟨(some 9), none, (.load true 6), [.tm 2]⟩,
  ⟨(some 10), none, .mov, [.tm 1]⟩,
  ⟨(some 11), none, (.call 46), [.tm 9, .tm 10]⟩,
  ⟨(some 5), none, .mov, [.tm 11]⟩])
 (.seq (.seq (.region [⟨(some 6), none, .mov, [.cn (.int .i64 0)]⟩])
 (.block 0 (.loop (.seq (.seq (.region [⟨(some 12), none, .mov, [.tm 6]⟩,
  ⟨(some 13), none, .mov, [.tm 1]⟩,
  ⟨(some 14), none, .len, [.tm 13]⟩,
  ⟨(some 15), none, (.cmp .lss), [.tm 12, .tm 14]⟩,
  ⟨(some 16), none, .mov, [.tm 15]⟩,
  ⟨(some 17), (some (16, true)), .mov, [.tm 5]⟩,
  ⟨(some 18), (some (16, true)), (.cmp .eql), [.tm 17, .cn (.int .i64 0)]⟩,
  ⟨(some 19), none, .and, [.tm 16, .tm 18]⟩])
 (.cond (.tm 19) .skip
  (.exit 0)))
 (.seq (.block 1 (.seq (.draw [] [⟨⟨(some 22), none, (.load true 6), [.tm 2]⟩, []⟩,
  ⟨⟨(some 23), none, .mov, [.tm 1]⟩, []⟩,
  ⟨⟨(some 24), none, .mov, [.tm 6]⟩, []⟩,
  ⟨⟨(some 25), none, (.idxAddr 4), [.tm 23, .tm 24]⟩, []⟩,
  ⟨⟨(some 26), none, (.load true 4), [.tm 25]⟩, []⟩,
  ⟨⟨(some 27), none, (.call 54), [.tm 22, .tm 26]⟩, []⟩,
  ⟨⟨(some 28), none, .not, [.tm 27]⟩, []⟩])
 (.cond (.tm 28) (.region [⟨(some 5), none, .mov, [.cn (.int .i64 7)]⟩])
  .skip)))
 (.region [⟨(some 20), none, .mov, [.tm 6]⟩,
  ⟨(some 21), none, (.ari .add), [.tm 20, .cn (.int .i64 1)]⟩,
  ⟨(some 6), none, .mov, [.tm 21]⟩]))))))
 (.seq (.seq (.region [⟨(some 7), none, .mov, [.cn (.int .i64 0)]⟩])
 (.block 2 (.loop (.seq (.seq (.region [⟨(some 29), none, .mov, [.tm 7]⟩,
  ⟨(some 30), none, .mov, [.tm 1]⟩,
  ⟨(some 31), none, .len, [.tm 30]⟩,
  ⟨(some 32), none, (.cmp .lss), [.tm 29, .tm 31]⟩,
  ⟨(some 33), none, .mov, [.tm 32]⟩,
  ⟨(some 34), (some (33, true)), .mov, [.tm 5]⟩,
  ⟨(some 35), (some (33, true)), (.cmp .eql), [.tm 34, .cn (.int .i64 0)]⟩,
  ⟨(some 36), none, .and, [.tm 33, .tm 35]⟩])
 (.cond (.tm 36) .skip
  (.exit 2)))
 (.seq (.block 3 (.seq (.region [⟨(some 8), none, .mov, [.cn (.int .i64 0)]⟩])
 (.block 4 (.loop (.seq (.seq (.region [⟨(some 39), none, .mov, [.tm 8]⟩,
  ⟨(some 40), none, .mov, [.tm 7]⟩,
  ⟨(some 41), none, (.cmp .lss), [.tm 39, .tm 40]⟩,
  ⟨(some 42), none, .mov, [.tm 41]⟩,
  ⟨(some 43), (some (42, true)), .mov, [.tm 5]⟩,
  ⟨(some 44), (some (42, true)), (.cmp .eql), [.tm 43, .cn (.int .i64 0)]⟩,
  ⟨(some 45), none, .and, [.tm 42, .tm 44]⟩])
 (.cond (.tm 45) .skip
  (.exit 4)))
 (.seq (.block 5 (.seq (.draw [] [⟨⟨(some 48), none, (.load true 6), [.tm 2]⟩, []⟩,
  ⟨⟨(some 49), none, .mov, [.tm 1]⟩, []⟩,
  ⟨⟨(some 50), none, .mov, [.tm 7]⟩, []⟩,
  ⟨⟨(some 51), none, (.idxAddr 4), [.tm 49, .tm 50]⟩, []⟩,
  ⟨⟨(some 52), none, (.load true 4), [.tm 51]⟩, []⟩,
  ⟨⟨(some 53), none, .mov, [.tm 1]⟩, []⟩,
  ⟨⟨(some 54), none, .mov, [.tm 8]⟩, []⟩,
  ⟨⟨(some 55), none, (.idxAddr 4), [.tm 53, .tm 54]⟩, []⟩,
  ⟨⟨(some 56), none, (.load true 4), [.tm 55]⟩, []⟩,
  ⟨⟨(some 57), none, (.call 55), [.tm 48, .tm 52, .tm 56]⟩, []⟩])
 (.cond (.tm 57) (.region [⟨(some 5), none, .mov, [.cn (.int .i64 8)]⟩])
  .skip)))
 (.region [⟨(some 46), none, .mov, [.tm 8]⟩,
  ⟨(some 47), none, (.ari .add), [.tm 46, .cn (.int .i64 1)]⟩,
  ⟨(some 8), none, .mov, [.tm 47]⟩])))))))
 (.region [⟨(some 37), none, .mov, [.tm 7]⟩,
  ⟨(some 38), none, (.ari .add), [.tm 37, .cn (.int .i64 1)]⟩,
  ⟨(some 7), none, .mov, [.tm 38]⟩]))))))
 (.seq (.region [⟨(some 58), none, .mov, [.tm 5]⟩,
  ⟨(some 4), none, .mov, [.tm 58]⟩])
 .ret))))) }
theorem v31_is : vfunc Try.prog Try.f31 = some v31 := by kernel_rfl


/-- The square of the distance of two places. -/
def rsqC : Ctr := { alias := false, of := fun l => match l with
  | [.int .i64 x, .int .i64 y, .int .i64 u, .int .i64 v] => .pre ((midN x ∧ midN y) ∧ midN u ∧ midN v) (.fin (.int .i64 (sqF (x - u) (y - v))) [])
  | _ => noC }
def O0 : Env := { ct := fun _ => none, fn := fun _ => none, meth := fun _ _ => none }
theorem O0_ok : EnvOk Try.prog O0 := by
  refine ⟨fun f c h => ?_, fun f vf h => ?_, (fun _ _ _ h => by cases h), by kernel_rfl⟩
  · cases h
  · cases h

theorem sq_w2 {x y : Int} (hx : -200000000 ≤ x ∧ x ≤ 200000000) (hy : -200000000 ≤ y ∧ y ≤ 200000000) : IntKind.i64.wrap (IntKind.i64.wrap (x * x) + IntKind.i64.wrap (y * y)) = sqF x y := by
  have m : ∀ z : Int, -200000000 ≤ z ∧ z ≤ 200000000 → 0 ≤ z * z ∧ z * z ≤ 40000000000000000 := fun z hz => by
    refine ⟨sq0 z, ?_⟩
    have h : (z * z).natAbs ≤ 200000000 * 200000000 := by
      rw [Int.natAbs_mul]; exact Nat.mul_le_mul (by omega) (by omega)
    omega
  have a := m x hx
  have b := m y hy
  unfold sqF
  rw [mid_w (x := x * x) (by omega), mid_w (x := y * y) (by omega), mid_w (by omega)]
theorem rsq_ok : rsqC.ok Try.prog 74 := by
  refine contract Try.func74 v74_is O0_ok 100 rsqC fun args k h => ⟨args, ?_⟩
  simp only [rsqC] at h
  split at h
  · rename_i x y u v
    refine ⟨by simp [leL, le], ?_⟩
    obtain ⟨⟨⟨⟨_, _⟩, ⟨_, _⟩⟩, ⟨_, _⟩, ⟨_, _⟩⟩, h⟩ := h
    dsimp only [v74, go_sem, Option.bind, Option.map, List.append_nil, Nat.beq, List.cons_append, List.nil_append, List.append_eq, List.map_cons, List.map_nil, ite_self, reduceIte]
    simp only [true_and, and_true, imp_self, implies_true, decide_eq_true_eq, decide_eq_false_iff_not, Nat.reduceAdd, Nat.reduceLeDiff, Bool.not_not, reduceCtorEq, false_imp_iff, Bool.not_eq_true', Bool.not_eq_false', Bool.false_eq_true, and_self, forall_const, ne_eq, not_false_eq_true, Nat.reduceEqDiff]
    rw [mid_w (x := x - u) (by omega), mid_w (x := y - v) (by omega), sq_w2 (by omega) (by omega)]
    exact ans_int h
  · exact h.1.elim
def rneC : Ctr := { alias := false, of := fun l => match l with
  | [.agg [.int .i64 w, .int .i64 d, .int .i64 c, .int .i64 a, .int .i64 s, .vs _ _ n sz get], .agg [.int .i64 x, .int .i64 y, .int .i64 r, .int .i64 h], .agg [.int .i64 x', .int .i64 y', .int .i64 r', .int .i64 h']] => .ex Brd fun b => .pre (brdP b w d c a s n sz get ∧ okB b ∧ okP ⟨x, y, r, h⟩ ∧ okP ⟨x', y', r', h'⟩) (.fin (.bool (nearF b ⟨x, y, r, h⟩ ⟨x', y', r', h'⟩)) [])
  | _ => noC }
def ronC : Ctr := { alias := false, of := fun l => match l with
  | [.agg [.int .i64 w, .int .i64 d, .int .i64 c, .int .i64 a, .int .i64 s, .vs _ _ n sz get], .agg [.int .i64 x, .int .i64 y, .int .i64 r, .int .i64 h]] => .ex Brd fun b => .pre (brdP b w d c a s n sz get ∧ okB b ∧ okP ⟨x, y, r, h⟩) (.fin (.bool (!offF b ⟨x, y, r, h⟩)) [])
  | _ => noC }
def O1 : Env := { ct := fun n => match n with | 74 => some rsqC | _ => none, fn := fun _ => none, meth := fun _ _ => none }
theorem O1_ct74 : O1.ct 74 = some rsqC := rfl
theorem O1_ok : EnvOk Try.prog O1 := by
  refine ⟨fun f c h => ?_, fun f vf h => ?_, (fun _ _ _ h => by cases h), by kernel_rfl⟩
  · simp only [O1] at h
    split at h
    · cases h; exact ⟨rsq_ok, Try.f74, Try.func74, by kernel_rfl, by kernel_rfl⟩
    · cases h
  · cases h

theorem rne_ok : rneC.ok Try.prog 55 := by
  refine contract Try.func55 v55_is O1_ok 100 rneC fun args k h => ?_
  simp only [rneC] at h
  split at h
  · rename_i w d c a s t z n sz get x y r hh x' y' r' hh'
    obtain ⟨b, ⟨hbp, hb, hp, hq⟩, h⟩ := h
    refine ⟨[.agg (encB t z b), .agg [.int .i64 x, .int .i64 y, .int .i64 r, .int .i64 hh], .agg [.int .i64 x', .int .i64 y', .int .i64 r', .int .i64 hh']], ⟨brd_le hbp, by simp [leL, le], by simp [leL, le], trivial⟩, ?_⟩
    dsimp only [v55, O1_ct74, rsqC, encB, encT, go_sem, Option.bind, Option.map, List.append_nil, Nat.beq, List.cons_append, List.nil_append, List.append_eq, List.map_cons, List.map_nil, ite_self, reduceIte]
    simp only [true_and, and_true, imp_self, implies_true, decide_eq_true_eq, decide_eq_false_iff_not, Nat.reduceAdd, Nat.reduceLeDiff, Bool.not_not, reduceCtorEq, false_imp_iff, Bool.not_eq_true', Bool.not_eq_false', Bool.false_eq_true, and_self, forall_const, ne_eq, not_false_eq_true, Nat.reduceEqDiff]
    obtain ⟨_, _, ⟨_, _⟩, _⟩ := hb
    obtain ⟨⟨_, _⟩, _, ⟨_, _⟩, _, _⟩ := hp
    obtain ⟨⟨_, _⟩, _, ⟨_, _⟩, _, _⟩ := hq
    dsimp only at *
    have m : midN (r + r' + b.c) := ⟨by omega, by omega⟩
    have e := mid_mul m m
    rw [mid_w (x := r + r') (by omega), mid_w (x := r + r' + b.c) (by omega), mid_w (x := (r + r' + b.c) * (r + r' + b.c)) (by omega)]
    exact ⟨⟨⟨⟨by omega, by omega⟩, by omega, by omega⟩, ⟨by omega, by omega⟩, by omega, by omega⟩, ans_bool h⟩
  · exact h.1.elim
theorem ron_ok : ronC.ok Try.prog 54 := by
  refine contract Try.func54 v54_is O1_ok 100 ronC fun args k h => ?_
  simp only [ronC] at h
  split at h
  · rename_i w d c a s t z n sz get x y r hh
    obtain ⟨b, ⟨hbp, hb, hp⟩, h⟩ := h
    refine ⟨[.agg (encB t z b), .agg [.int .i64 x, .int .i64 y, .int .i64 r, .int .i64 hh]], ⟨brd_le hbp, by simp [leL, le], trivial⟩, ?_⟩
    dsimp only [v54, O1_ct74, rsqC, encB, encT, go_sem, Option.bind, Option.map, List.append_nil, Nat.beq, List.cons_append, List.nil_append, List.append_eq, List.map_cons, List.map_nil, ite_self, reduceIte]
    simp only [true_and, and_true, imp_self, implies_true, decide_eq_true_eq, decide_eq_false_iff_not, Nat.reduceAdd, Nat.reduceLeDiff, Bool.not_not, reduceCtorEq, false_imp_iff, Bool.not_eq_true', Bool.not_eq_false', Bool.false_eq_true, and_self, forall_const, ne_eq, not_false_eq_true, Nat.reduceEqDiff]
    obtain ⟨_, _, ⟨_, _⟩, _⟩ := hb
    obtain ⟨⟨_, _⟩, _, ⟨_, _⟩, _, _⟩ := hp
    dsimp only at *
    rw [mid_w (x := x + r) (by omega), mid_w (x := y + r) (by omega)]
    have e : (!offF b ⟨x, y, r, hh⟩) = (decide (r ≤ x) && decide (x + r ≤ b.w) && decide (r ≤ y) && decide (y + r ≤ b.d)) := by
      rw [Bool.eq_iff_iff]; simp only [offF, outF, Bool.not_eq_true', Bool.or_eq_false_iff, Bool.and_eq_true, decide_eq_true_eq, decide_eq_false_iff_not]; omega
    rw [e] at h
    exact ans_bool h
  · exact h.1.elim
/-- The first error. -/
def orF (e : Int) (p : Bool) (v : Int) : Int := if e ≠ 0 then e else if p then v else 0
theorem orF_ne {e v : Int} {p : Bool} (h : e ≠ 0) : orF e p v = e := if_pos h
theorem orF_z {v : Int} {p : Bool} : orF 0 p v = if p then v else 0 := if_neg (by simp)
theorem orF_f {e v : Int} : orF e false v = e := by unfold orF; split; rfl; simp_all
theorem orF_zero {e v : Int} {p : Bool} (hv : v ≠ 0) (h : orF e p v = 0) : e = 0 ∧ p = false := by
  unfold orF at h
  split at h
  · omega
  · split at h
    · omega
    · rename_i h1 h2; exact ⟨by omega, by simpa using h2⟩
theorem any_take {α : Type} [Inhabited α] {l : List α} {f : α → Bool} {i : Nat} (h : i < l.length) : (l.take (i + 1)).any f = ((l.take i).any f || f (l.getD i default)) := by
  rw [List.take_add_one, List.any_append, List.getElem?_eq_getElem h, List.getD_eq_getElem?_getD, List.getElem?_eq_getElem h]
  simp
theorem any_range {f : Nat → Bool} {i : Nat} : (List.range (i + 1)).any f = ((List.range i).any f || f i) := by
  rw [List.range_succ, List.any_append]; simp
theorem any_take_mono {α : Type} {l : List α} {f : α → Bool} {i : Nat} (h : (l.take i).any f = true) : l.any f = true := by
  obtain ⟨x, hx, hf⟩ := List.any_eq_true.1 h
  exact List.any_eq_true.2 ⟨x, List.mem_of_mem_take hx, hf⟩
theorem any_range_mono {f : Nat → Bool} {i n : Nat} (hi : i ≤ n) (h : (List.range i).any f = true) : (List.range n).any f = true := by
  obtain ⟨x, hx, hf⟩ := List.any_eq_true.1 h
  exact List.any_eq_true.2 ⟨x, List.mem_range.2 (by have := List.mem_range.1 hx; omega), hf⟩
def ck1 (b : Brd) (l : List Std) (i : Nat) : Int := orF (chkF b l) ((l.take i).any (offF b)) 7
def ck2 (b : Brd) (l : List Std) (i : Nat) : Int := orF (ck1 b l l.length) ((List.range i).any fun i => (l.take i).any (nearF b (l.getD i default))) 8
def ck3 (b : Brd) (l : List Std) (i k : Nat) : Int := orF (ck2 b l i) ((l.take k).any (nearF b (l.getD i default))) 8
theorem ck1_end {b : Brd} {l : List Std} {i : Nat} (h : i = l.length ∨ ck1 b l i ≠ 0) : ck1 b l i = ck1 b l l.length := by
  rcases h with h | h
  · rw [h]
  · unfold ck1 at h ⊢
    by_cases hc : chkF b l = 0
    · rw [hc, orF_z] at h ⊢
      split at h
      · rename_i ha
        rw [orF_z, if_pos ha, if_pos (by rw [List.take_of_length_le (Nat.le_refl _)]; exact any_take_mono ha)]
      · exact absurd rfl h
    · rw [orF_ne hc, orF_ne hc]
theorem ck2_succ {b : Brd} {l : List Std} {i : Nat} : ck2 b l (i + 1) = ck3 b l i i := by
  unfold ck3 ck2
  rw [any_range]
  by_cases hc : ck1 b l l.length = 0
  · rw [hc, orF_z, orF_z]
    cases (List.range i).any fun i => (l.take i).any (nearF b (l.getD i default))
    · rw [Bool.false_or]; rfl
    · rw [Bool.true_or, if_pos rfl, orF_ne (by simp)]
  · rw [orF_ne hc, orF_ne hc, orF_ne hc]
theorem ck2_end {b : Brd} {l : List Std} {i : Nat} (hi : i ≤ l.length) (h : i = l.length ∨ ck2 b l i ≠ 0) : ck2 b l i = checkF b l := by
  have e : checkF b l = ck2 b l l.length := by
    unfold checkF standF ck2 ck1
    rw [List.take_of_length_le (Nat.le_refl _)]
    split
    · rename_i hc; rw [orF_ne hc, orF_ne hc]
    · rename_i hc
      have hc : chkF b l = 0 := by omega
      rw [hc, orF_z]
      split
      · rw [orF_ne (by simp)]
      · rw [orF_z]; rfl
  rw [e]
  rcases h with h | h
  · rw [h]
  · unfold ck2 at h ⊢
    by_cases hc : ck1 b l l.length = 0
    · rw [hc, orF_z] at h ⊢
      split at h
      · rename_i ha
        rw [orF_z, if_pos ha, if_pos (any_range_mono hi ha)]
      · exact absurd rfl h
    · rw [orF_ne hc, orF_ne hc]
theorem ck3_end {b : Brd} {l : List Std} {i k : Nat} (hk : k ≤ i) (h : k = i ∨ ck3 b l i k ≠ 0) : ck3 b l i k = ck3 b l i i := by
  rcases h with h | h
  · rw [h]
  · unfold ck3 at h ⊢
    by_cases hc : ck2 b l i = 0
    · rw [hc, orF_z] at h ⊢
      split at h
      · rename_i ha
        have : ((l.take i).any (nearF b (l.getD i default))) = true := by
          obtain ⟨x, hx, hf⟩ := List.any_eq_true.1 ha
          exact List.any_eq_true.2 ⟨x, (List.take_subset_take_left l hk) hx, hf⟩
        rw [orF_z, if_pos ha, if_pos this]
      · exact absurd rfl h
    · rw [orF_ne hc, orF_ne hc]
def O2 : Env := { ct := fun n => match n with | 46 => some chC | 55 => some rneC | 54 => some ronC | _ => none, fn := fun _ => none, meth := fun _ _ => none }
theorem O2_ct46 : O2.ct 46 = some chC := rfl
theorem O2_ct55 : O2.ct 55 = some rneC := rfl
theorem O2_ct54 : O2.ct 54 = some ronC := rfl
theorem O2_ok : EnvOk Try.prog O2 := by
  refine ⟨fun f c h => ?_, fun f vf h => ?_, (fun _ _ _ h => by cases h), by kernel_rfl⟩
  · simp only [O2] at h
    split at h
    · cases h; exact ⟨val_ok, Try.f46, Try.func46, by kernel_rfl, by kernel_rfl⟩
    · cases h; exact ⟨rne_ok, Try.f55, Try.func55, by kernel_rfl, by kernel_rfl⟩
    · cases h; exact ⟨ron_ok, Try.f54, Try.func54, by kernel_rfl, by kernel_rfl⟩
    · cases h
  · cases h

theorem rck_ok : ckC.ok Try.prog 31 := by
  refine contract Try.func31 v31_is O2_ok 200 ckC fun args k h => ?_
  simp only [ckC] at h
  split at h
  · rename_i w d c a s t z n sz get t' z' n' sz' get'
    obtain ⟨b, l, ⟨hbp, rfl, rfl, hg⟩, h⟩ := h
    refine ⟨[.agg (encB t z b), .vs t' z' l.length 4 (fun k => encS (l.getD k default))], ⟨brd_le hbp, by simpa [le] using hg, trivial⟩, ?_⟩
    have h : k (.int .i64 (checkF b l)) [] := h
    dsimp only [v31, O2_ct46, chC, encB, encT, encS, go_sem, Option.bind, Option.map, List.append_nil, Nat.beq, List.cons_append, List.nil_append, List.append_eq, List.map_cons, List.map_nil, ite_self, reduceIte]
    simp only [true_and, and_true, imp_self, implies_true, decide_eq_true_eq, decide_eq_false_iff_not, Nat.reduceAdd, Nat.reduceLeDiff, Bool.not_not, reduceCtorEq, false_imp_iff, Bool.not_eq_true', Bool.not_eq_false', Bool.false_eq_true, and_self, forall_const, ne_eq, not_false_eq_true, Nat.reduceEqDiff]
    refine ⟨b, l, ⟨brdP_self b, lsP_self⟩, ?_⟩
    refine Loop.keep [1, 0] Nat (fun i => [(5, .int .i64 (ck1 b l i)), (6, .int .i64 i)]) (fun _ => []) [] (fun i => i ≤ l.length) (fun i => l.length - i) ?_ ?_
    · refine ⟨0, Nat.zero_le _, ?_⟩
      dsimp only [go_sem, Option.bind, Option.map, List.append_nil, Nat.beq, List.cons_append, List.nil_append, List.append_eq, List.map_cons, List.map_nil, ite_self, reduceIte]
      simp only [leS_mk, leL_cons, leL_nil, le_junk, le_int, le_bool, le_nil, leLL_nil, leLL_cons, leH_cons, leH_nil, leH1_box, leH1_own, leH1_gone, le_vs, le_agg, le_tup, le_ptr, le_own, le_xp, le_fn, le_opt, le_val, le_elem, le_nil_own, le_nil_vs, leH_ghost, leL_chunk, leXL_id, bnd_int, bnd_bool, bnd_val, bnd_nil, bnd_junk, bnd_vs, bnd_xp, bnd_agg, bnd_tup, bnd_ptr, bnd_own, bnd_elem, bnd_fn, bnd_iface, bnd_opt, bndL_nil, bndL_cons, lenH_cons, lenH_nil, imp_self, implies_true, true_and, and_true]
      have e : ck1 b l 0 = chkF b l := by rw [ck1, List.take_zero, List.any_nil, orF_f]
      rw [e]; simp
    · rintro i hi
      dsimp only [O2_ct54, ronC, encB, encT, encS, Int.toNat_natCast, go_sem, Option.bind, Option.map, List.append_nil, Nat.beq, List.cons_append, List.nil_append, List.append_eq, List.map_cons, List.map_nil, ite_self, reduceIte]
      simp only [true_and, and_true, imp_self, implies_true, decide_eq_true_eq, decide_eq_false_iff_not, Nat.reduceAdd, Nat.reduceLeDiff, Bool.not_not, reduceCtorEq, false_imp_iff, Bool.not_eq_true', Bool.not_eq_false', Bool.false_eq_true, and_self, forall_const, ne_eq, not_false_eq_true, Nat.reduceEqDiff]
      refine ⟨fun hlt => ?_, fun hge => ?_⟩
      · obtain ⟨hlt, hz⟩ := Bool.and_eq_true_iff.1 hlt
        have hlt := of_decide_eq_true hlt
        have hz := of_decide_eq_true hz
        obtain ⟨hc, hn⟩ := orF_zero (by decide) hz
        obtain ⟨hb, hl, hlen⟩ := chkF_ok hc
        have e : ck1 b l (i + 1) = if offF b (l.getD i default) then 7 else 0 := by rw [ck1, any_take (by omega), hn, hc, orF_z, Bool.false_or]
        refine ⟨⟨by omega, hlt⟩, b, ⟨brdP_self b, hb, hl _ (getD_mem (by omega))⟩, fun hp => ?_, fun hp => ?_⟩
        · refine ⟨i + 1, by omega, by omega, ?_⟩
          rw [e, if_pos hp]
          simp only [w_succ (i := i) (n := l.length) (by omega) (by omega), leS_mk, leL_cons, leL_nil, le_junk, le_int, le_bool, le_nil, leLL_nil, leLL_cons, leH_cons, leH_nil, leH1_box, leH1_own, leH1_gone, le_vs, le_agg, le_tup, le_ptr, le_own, le_xp, le_fn, le_opt, le_val, le_elem, le_nil_own, le_nil_vs, leH_ghost, leL_chunk, leXL_id, bnd_int, bnd_bool, bnd_val, bnd_nil, bnd_junk, bnd_vs, bnd_xp, bnd_agg, bnd_tup, bnd_ptr, bnd_own, bnd_elem, bnd_fn, bnd_iface, bnd_opt, bndL_nil, bndL_cons, lenH_cons, lenH_nil, imp_self, implies_true, true_and, and_true] <;> simp
        · refine ⟨i + 1, by omega, by omega, ?_⟩
          rw [e, if_neg (by rw [show offF b (l.getD i default) = false from hp]; simp), hz]
          simp only [w_succ (i := i) (n := l.length) (by omega) (by omega), leS_mk, leL_cons, leL_nil, le_junk, le_int, le_bool, le_nil, leLL_nil, leLL_cons, leH_cons, leH_nil, leH1_box, leH1_own, leH1_gone, le_vs, le_agg, le_tup, le_ptr, le_own, le_xp, le_fn, le_opt, le_val, le_elem, le_nil_own, le_nil_vs, leH_ghost, leL_chunk, leXL_id, bnd_int, bnd_bool, bnd_val, bnd_nil, bnd_junk, bnd_vs, bnd_xp, bnd_agg, bnd_tup, bnd_ptr, bnd_own, bnd_elem, bnd_fn, bnd_iface, bnd_opt, bndL_nil, bndL_cons, lenH_cons, lenH_nil, imp_self, implies_true, true_and, and_true] <;> simp
      · have hge : i = l.length ∨ ck1 b l i ≠ 0 := by
          rw [Bool.and_eq_false_iff, decide_eq_false_iff_not, decide_eq_false_iff_not] at hge
          omega
        refine Loop.keep [1, 0] Nat (fun i => [(5, .int .i64 (ck2 b l i)), (7, .int .i64 i)]) (fun _ => []) [] (fun i => i ≤ l.length) (fun i => l.length - i) ?_ ?_
        · refine ⟨0, Nat.zero_le _, ?_⟩
          dsimp only [go_sem, Option.bind, Option.map, List.append_nil, Nat.beq, List.cons_append, List.nil_append, List.append_eq, List.map_cons, List.map_nil, ite_self, reduceIte]
          simp only [leS_mk, leL_cons, leL_nil, le_junk, le_int, le_bool, le_nil, leLL_nil, leLL_cons, leH_cons, leH_nil, leH1_box, leH1_own, leH1_gone, le_vs, le_agg, le_tup, le_ptr, le_own, le_xp, le_fn, le_opt, le_val, le_elem, le_nil_own, le_nil_vs, leH_ghost, leL_chunk, leXL_id, bnd_int, bnd_bool, bnd_val, bnd_nil, bnd_junk, bnd_vs, bnd_xp, bnd_agg, bnd_tup, bnd_ptr, bnd_own, bnd_elem, bnd_fn, bnd_iface, bnd_opt, bndL_nil, bndL_cons, lenH_cons, lenH_nil, imp_self, implies_true, true_and, and_true]
          have e : ck1 b l i = ck2 b l 0 := by rw [ck1_end hge, ck2, List.range_zero, List.any_nil, orF_f]
          rw [e]; simp
        · rintro j hj
          dsimp only [go_sem, Option.bind, Option.map, List.append_nil, Nat.beq, List.cons_append, List.nil_append, List.append_eq, List.map_cons, List.map_nil, ite_self, reduceIte]
          simp only [true_and, and_true, imp_self, implies_true, decide_eq_true_eq, decide_eq_false_iff_not, Nat.reduceAdd, Nat.reduceLeDiff, Bool.not_not, reduceCtorEq, false_imp_iff, Bool.not_eq_true', Bool.not_eq_false', Bool.false_eq_true, and_self, forall_const, ne_eq, not_false_eq_true, Nat.reduceEqDiff]
          refine ⟨fun hlt => ?_, fun hge => ?_⟩
          · obtain ⟨hlt, hz⟩ := Bool.and_eq_true_iff.1 hlt
            have hlt := of_decide_eq_true hlt
            have hz := of_decide_eq_true hz
            refine Loop.keep [1, 0, 4] Nat (fun k => [(5, .int .i64 (ck3 b l j k)), (8, .int .i64 k)]) (fun _ => []) [] (fun k => k ≤ j) (fun k => j - k) ?_ ?_
            · refine ⟨0, Nat.zero_le _, ?_⟩
              dsimp only [go_sem, Option.bind, Option.map, List.append_nil, Nat.beq, List.cons_append, List.nil_append, List.append_eq, List.map_cons, List.map_nil, ite_self, reduceIte]
              simp only [leS_mk, leL_cons, leL_nil, le_junk, le_int, le_bool, le_nil, leLL_nil, leLL_cons, leH_cons, leH_nil, leH1_box, leH1_own, leH1_gone, le_vs, le_agg, le_tup, le_ptr, le_own, le_xp, le_fn, le_opt, le_val, le_elem, le_nil_own, le_nil_vs, leH_ghost, leL_chunk, leXL_id, bnd_int, bnd_bool, bnd_val, bnd_nil, bnd_junk, bnd_vs, bnd_xp, bnd_agg, bnd_tup, bnd_ptr, bnd_own, bnd_elem, bnd_fn, bnd_iface, bnd_opt, bndL_nil, bndL_cons, lenH_cons, lenH_nil, imp_self, implies_true, true_and, and_true]
              have e : ck3 b l j 0 = ck2 b l j := by rw [ck3, List.take_zero, List.any_nil, orF_f]
              rw [e]; simp
            · rintro m hm
              dsimp only [O2_ct55, rneC, encB, encT, encS, Int.toNat_natCast, go_sem, Option.bind, Option.map, List.append_nil, Nat.beq, List.cons_append, List.nil_append, List.append_eq, List.map_cons, List.map_nil, ite_self, reduceIte]
              simp only [true_and, and_true, imp_self, implies_true, decide_eq_true_eq, decide_eq_false_iff_not, Nat.reduceAdd, Nat.reduceLeDiff, Bool.not_not, reduceCtorEq, false_imp_iff, Bool.not_eq_true', Bool.not_eq_false', Bool.false_eq_true, and_self, forall_const, ne_eq, not_false_eq_true, Nat.reduceEqDiff]
              refine ⟨fun hlt3 => ?_, fun hge3 => ?_⟩
              · obtain ⟨hlt3, hz3⟩ := Bool.and_eq_true_iff.1 hlt3
                have hlt3 := of_decide_eq_true hlt3
                have hz3 := of_decide_eq_true hz3
                obtain ⟨_, hn⟩ := orF_zero (by decide) hz3
                obtain ⟨hz1, _⟩ := orF_zero (by decide) hz
                obtain ⟨hc, _⟩ := orF_zero (by decide) hz1
                obtain ⟨hb, hl, hlen⟩ := chkF_ok hc
                have e : ck3 b l j (m + 1) = if nearF b (l.getD j default) (l.getD m default) then 8 else 0 := by rw [ck3, any_take (by omega), hn, hz, orF_z, Bool.false_or]
                refine ⟨⟨by omega, by omega⟩, ⟨by omega, by omega⟩, b, ⟨brdP_self b, hb, hl _ (getD_mem (by omega)), hl _ (getD_mem (by omega))⟩, fun hp => ?_, fun hp => ?_⟩
                · refine ⟨m + 1, by omega, by omega, ?_⟩
                  rw [e, if_pos hp]
                  simp only [w_succ (i := m) (n := l.length) (by omega) (by omega), leS_mk, leL_cons, leL_nil, le_junk, le_int, le_bool, le_nil, leLL_nil, leLL_cons, leH_cons, leH_nil, leH1_box, leH1_own, leH1_gone, le_vs, le_agg, le_tup, le_ptr, le_own, le_xp, le_fn, le_opt, le_val, le_elem, le_nil_own, le_nil_vs, leH_ghost, leL_chunk, leXL_id, bnd_int, bnd_bool, bnd_val, bnd_nil, bnd_junk, bnd_vs, bnd_xp, bnd_agg, bnd_tup, bnd_ptr, bnd_own, bnd_elem, bnd_fn, bnd_iface, bnd_opt, bndL_nil, bndL_cons, lenH_cons, lenH_nil, imp_self, implies_true, true_and, and_true] <;> simp
                · refine ⟨m + 1, by omega, by omega, ?_⟩
                  rw [e, if_neg (by rw [show nearF b (l.getD j default) (l.getD m default) = false from hp]; simp), hz3]
                  simp only [w_succ (i := m) (n := l.length) (by omega) (by omega), leS_mk, leL_cons, leL_nil, le_junk, le_int, le_bool, le_nil, leLL_nil, leLL_cons, leH_cons, leH_nil, leH1_box, leH1_own, leH1_gone, le_vs, le_agg, le_tup, le_ptr, le_own, le_xp, le_fn, le_opt, le_val, le_elem, le_nil_own, le_nil_vs, leH_ghost, leL_chunk, leXL_id, bnd_int, bnd_bool, bnd_val, bnd_nil, bnd_junk, bnd_vs, bnd_xp, bnd_agg, bnd_tup, bnd_ptr, bnd_own, bnd_elem, bnd_fn, bnd_iface, bnd_opt, bndL_nil, bndL_cons, lenH_cons, lenH_nil, imp_self, implies_true, true_and, and_true] <;> simp
              · have hge3 : m = j ∨ ck3 b l j m ≠ 0 := by
                  rw [Bool.and_eq_false_iff, decide_eq_false_iff_not, decide_eq_false_iff_not] at hge3
                  omega
                refine ⟨j + 1, by omega, by omega, ?_⟩
                rw [ck3_end hm hge3, ← ck2_succ]
                have hlen : l.length ≤ 200 := by
                  obtain ⟨hz1, _⟩ := orF_zero (by decide) hz
                  obtain ⟨hc, _⟩ := orF_zero (by decide) hz1
                  exact (chkF_ok hc).2.2
                simp only [w_succ (i := j) (n := l.length) (by omega) (by omega), leS_mk, leL_cons, leL_nil, le_junk, le_int, le_bool, le_nil, leLL_nil, leLL_cons, leH_cons, leH_nil, leH1_box, leH1_own, leH1_gone, le_vs, le_agg, le_tup, le_ptr, le_own, le_xp, le_fn, le_opt, le_val, le_elem, le_nil_own, le_nil_vs, leH_ghost, leL_chunk, leXL_id, bnd_int, bnd_bool, bnd_val, bnd_nil, bnd_junk, bnd_vs, bnd_xp, bnd_agg, bnd_tup, bnd_ptr, bnd_own, bnd_elem, bnd_fn, bnd_iface, bnd_opt, bndL_nil, bndL_cons, lenH_cons, lenH_nil, imp_self, implies_true, true_and, and_true] <;> simp
          · have hge : j = l.length ∨ ck2 b l j ≠ 0 := by
              rw [Bool.and_eq_false_iff, decide_eq_false_iff_not, decide_eq_false_iff_not] at hge
              omega
            rw [ck2_end hj hge]
            exact ans_int h
  · exact h.1.elim
end Go.Proofs.Ytojaibhjfeojjaa

/- Numbers by limbs, walked: limb, trim, Of, Order, Plus, Minus. -/
set_option linter.all false
namespace Go.Proofs.Ytojaibhjfeojjaa
open Go Go.Vx
set_option maxRecDepth 100000
set_option maxHeartbeats 4000000

def v70 : VF := { ntmps := 14, res := [.tmp 4], body :=
 (.seq (.region [⟨(some 4), none, .mov, [.cn (.int .u64 0)]⟩])
 (.seq (.seq (.region [⟨(some 5), none, .mov, [.tm 1]⟩,
  ⟨(some 6), none, .mov, [.tm 0]⟩,
  ⟨(some 7), none, .len, [.tm 6]⟩,
  ⟨(some 8), none, (.cmp .lss), [.tm 5, .tm 7]⟩])
 (.cond (.tm 8) (.seq (.region [⟨(some 9), none, .mov, [.tm 0]⟩,
  ⟨(some 10), none, .mov, [.tm 1]⟩,
  ⟨(some 11), none, (.idxAddr 1), [.tm 9, .tm 10]⟩,
  ⟨(some 12), none, (.load false 1), [.tm 11]⟩,
  ⟨(some 13), none, (.conv .u64), [.tm 12]⟩,
  ⟨(some 4), none, .mov, [.tm 13]⟩])
 .ret)
  .skip))
 (.seq (.region [⟨(some 4), none, .mov, [.cn (.int .u64 0)]⟩])
 .ret))) }
theorem v70_is : vfunc Try.prog Try.f70 = some v70 := by kernel_rfl
def v71 : VF := { ntmps := 23, res := [.tmp 2], body :=
 (.seq (.region [⟨(some 2), none, .mov, [.cn .nil]⟩])
 (.seq (.region [⟨(some 4), none, .mov, [.tm 0]⟩,
  ⟨(some 5), none, .len, [.tm 4]⟩,
  ⟨(some 3), none, .mov, [.tm 5]⟩])
 (.seq (.block 0 (.loop (.seq (.seq (.region [⟨(some 6), none, .mov, [.tm 3]⟩,
  ⟨(some 7), none, (.cmp .gtr), [.tm 6, .cn (.int .i64 0)]⟩,
  ⟨(some 8), none, .mov, [.tm 7]⟩,
  ⟨(some 9), (some (8, true)), .mov, [.tm 0]⟩,
  ⟨(some 10), (some (8, true)), .mov, [.tm 3]⟩,
  ⟨(some 11), (some (8, true)), (.ari .sub), [.tm 10, .cn (.int .i64 1)]⟩,
  ⟨(some 12), (some (8, true)), (.idxAddr 1), [.tm 9, .tm 11]⟩,
  ⟨(some 13), (some (8, true)), (.load false 1), [.tm 12]⟩,
  ⟨(some 14), (some (8, true)), (.cmp .eql), [.tm 13, .cn (.int .u32 0)]⟩,
  ⟨(some 15), none, .and, [.tm 8, .tm 14]⟩])
 (.cond (.tm 15) .skip
  (.exit 0)))
 (.block 1 (.region [⟨(some 16), none, .mov, [.tm 3]⟩,
  ⟨(some 17), none, (.ari .sub), [.tm 16, .cn (.int .i64 1)]⟩,
  ⟨(some 3), none, .mov, [.tm 17]⟩])))))
 (.seq (.region [⟨(some 18), none, (.buildSlice 1 0 [(.int .u32 0)] []), []⟩,
  ⟨(some 19), none, .mov, [.tm 0]⟩,
  ⟨(some 20), none, .mov, [.tm 3]⟩,
  ⟨(some 21), none, (.slice 1 false true), [.tm 19, .tm 20]⟩,
  ⟨(some 22), none, (.append 1 4 [(.int .u32 0)]), [.tm 18, .tm 21]⟩,
  ⟨(some 2), none, .mov, [.tm 22]⟩])
 .ret)))) }
theorem v71_is : vfunc Try.prog Try.f71 = some v71 := by kernel_rfl
def v72 : VF := { ntmps := 11, res := [.tmp 2], body :=
 (.seq (.region [⟨(some 2), none, .mov, [.cn .nil]⟩])
 (.seq (.region [⟨(some 3), none, .mov, [.tm 0]⟩,
  ⟨(some 4), none, .rem, [.tm 3, .cn (.int .u64 4294967296)]⟩,
  ⟨(some 5), none, (.conv .u32), [.tm 4]⟩,
  ⟨(some 6), none, .mov, [.tm 0]⟩,
  ⟨(some 7), none, .quo, [.tm 6, .cn (.int .u64 4294967296)]⟩,
  ⟨(some 8), none, (.conv .u32), [.tm 7]⟩,
  ⟨(some 9), none, (.buildSlice 1 2 [(.int .u32 0)] [(0, 1), (1, 1)]), [.tm 5, .tm 8]⟩,
  ⟨(some 10), none, (.call 71), [.tm 9]⟩,
  ⟨(some 2), none, .mov, [.tm 10]⟩])
 .ret)) }
theorem v72_is : vfunc Try.prog Try.f72 = some v72 := by kernel_rfl
def v50 : VF := { ntmps := 30, res := [.tmp 4], body :=
 (.seq (.region [⟨(some 4), none, .mov, [.cn (.int .i64 0)]⟩])
 (.seq (.seq (.region [⟨(some 6), none, .mov, [.tm 0]⟩,
  ⟨(some 7), none, .len, [.tm 6]⟩,
  ⟨(some 8), none, .mov, [.tm 1]⟩,
  ⟨(some 9), none, .len, [.tm 8]⟩,
  ⟨(some 10), none, .max, [.tm 7, .tm 9]⟩,
  ⟨(some 11), none, (.ari .sub), [.tm 10, .cn (.int .i64 1)]⟩,
  ⟨(some 5), none, .mov, [.tm 11]⟩])
 (.block 0 (.loop (.seq (.seq (.region [⟨(some 12), none, .mov, [.tm 5]⟩,
  ⟨(some 13), none, (.cmp .geq), [.tm 12, .cn (.int .i64 0)]⟩])
 (.cond (.tm 13) .skip
  (.exit 0)))
 (.seq (.block 1 (.seq (.seq (.region [⟨(some 16), none, .mov, [.tm 0]⟩,
  ⟨(some 17), none, .mov, [.tm 5]⟩,
  ⟨(some 18), none, (.call 70), [.tm 16, .tm 17]⟩,
  ⟨(some 19), none, .mov, [.tm 1]⟩,
  ⟨(some 20), none, .mov, [.tm 5]⟩,
  ⟨(some 21), none, (.call 70), [.tm 19, .tm 20]⟩,
  ⟨(some 22), none, (.cmp .lss), [.tm 18, .tm 21]⟩])
 (.cond (.tm 22) (.seq (.region [⟨(some 4), none, .mov, [.cn (.int .i64 (-1))]⟩])
 .ret)
  .skip))
 (.seq (.region [⟨(some 23), none, .mov, [.tm 0]⟩,
  ⟨(some 24), none, .mov, [.tm 5]⟩,
  ⟨(some 25), none, (.call 70), [.tm 23, .tm 24]⟩,
  ⟨(some 26), none, .mov, [.tm 1]⟩,
  ⟨(some 27), none, .mov, [.tm 5]⟩,
  ⟨(some 28), none, (.call 70), [.tm 26, .tm 27]⟩,
  ⟨(some 29), none, (.cmp .gtr), [.tm 25, .tm 28]⟩])
 (.cond (.tm 29) (.seq (.region [⟨(some 4), none, .mov, [.cn (.int .i64 1)]⟩])
 .ret)
  .skip))))
 (.region [⟨(some 14), none, .mov, [.tm 5]⟩,
  ⟨(some 15), none, (.ari .sub), [.tm 14, .cn (.int .i64 1)]⟩,
  ⟨(some 5), none, .mov, [.tm 15]⟩]))))))
 (.seq (.region [⟨(some 4), none, .mov, [.cn (.int .i64 0)]⟩])
 .ret))) }
theorem v50_is : vfunc Try.prog Try.f50 = some v50 := by kernel_rfl
def v51 : VF := { ntmps := 38, res := [.tmp 4], body :=
 (.seq (.region [⟨(some 4), none, .mov, [.cn .nil]⟩])
 (.seq (.region [⟨(some 5), none, .mov, [.cn .nil]⟩])
 (.seq (.region [⟨(some 6), none, .mov, [.cn (.int .u64 0)]⟩])
 (.seq (.seq (.region [⟨(some 7), none, .mov, [.cn (.int .i64 0)]⟩])
 (.block 0 (.loop (.seq (.seq (.region [⟨(some 9), none, .mov, [.tm 7]⟩,
  ⟨(some 10), none, .mov, [.tm 0]⟩,
  ⟨(some 11), none, .len, [.tm 10]⟩,
  ⟨(some 12), none, .mov, [.tm 1]⟩,
  ⟨(some 13), none, .len, [.tm 12]⟩,
  ⟨(some 14), none, .max, [.tm 11, .tm 13]⟩,
  ⟨(some 15), none, (.ari .add), [.tm 14, .cn (.int .i64 1)]⟩,
  ⟨(some 16), none, (.cmp .lss), [.tm 9, .tm 15]⟩])
 (.cond (.tm 16) .skip
  (.exit 0)))
 (.seq (.block 1 (.seq (.region [⟨(some 19), none, .mov, [.tm 0]⟩,
  ⟨(some 20), none, .mov, [.tm 7]⟩,
  ⟨(some 21), none, (.call 70), [.tm 19, .tm 20]⟩,
  ⟨(some 22), none, .mov, [.tm 1]⟩,
  ⟨(some 23), none, .mov, [.tm 7]⟩,
  ⟨(some 24), none, (.call 70), [.tm 22, .tm 23]⟩,
  ⟨(some 25), none, (.ari .add), [.tm 21, .tm 24]⟩,
  ⟨(some 26), none, .mov, [.tm 6]⟩,
  ⟨(some 27), none, (.ari .add), [.tm 25, .tm 26]⟩,
  ⟨(some 8), none, .mov, [.tm 27]⟩])
 (.seq (.region [⟨(some 28), none, .mov, [.tm 5]⟩,
  ⟨(some 29), none, .mov, [.tm 8]⟩,
  ⟨(some 30), none, .rem, [.tm 29, .cn (.int .u64 4294967296)]⟩,
  ⟨(some 31), none, (.conv .u32), [.tm 30]⟩,
  ⟨(some 32), none, (.buildSlice 1 1 [(.int .u32 0)] [(0, 1)]), [.tm 31]⟩,
  ⟨(some 33), none, (.append 1 4 [(.int .u32 0)]), [.tm 28, .tm 32]⟩,
  ⟨(some 5), none, .mov, [.tm 33]⟩])
 (.region [⟨(some 34), none, .mov, [.tm 8]⟩,
  ⟨(some 35), none, .quo, [.tm 34, .cn (.int .u64 4294967296)]⟩,
  ⟨(some 6), none, .mov, [.tm 35]⟩]))))
 (.region [⟨(some 17), none, .mov, [.tm 7]⟩,
  ⟨(some 18), none, (.ari .add), [.tm 17, .cn (.int .i64 1)]⟩,
  ⟨(some 7), none, .mov, [.tm 18]⟩]))))))
 (.seq (.region [⟨(some 36), none, .mov, [.tm 5]⟩,
  ⟨(some 37), none, (.call 71), [.tm 36]⟩,
  ⟨(some 4), none, .mov, [.tm 37]⟩])
 .ret))))) }
theorem v51_is : vfunc Try.prog Try.f51 = some v51 := by kernel_rfl


/-- A number came in by n limbs. -/
def padP (a n sz : Nat) (get : Nat → List SV) : Prop := sz = 1 ∧ n ≤ 100000 ∧ a < 4294967296 ^ n ∧ ∀ k, k < n → leXL (get k) [.int .u32 (dig a k)]
theorem padP_self {a n : Nat} (hn : n ≤ 100000) (ha : a < 4294967296 ^ n) : padP a n 1 (fun k => [.int .u32 (dig a k)]) := ⟨rfl, hn, ha, fun k _ => leXL_self _⟩
theorem padP_nl {a : Nat} (hn : nl a ≤ 100000) : padP a (nl a) 1 (fun k => [.int .u32 (dig a k)]) := padP_self hn (nl_lt a)
theorem padP_0 {a sz : Nat} {get : Nat → List SV} (h : padP a 0 sz get) : a = 0 := by
  have := h.2.2.1
  simp at this; omega

def natS (z : Bool) (a : Nat) : SV := .vs true z (nl a) 1 (fun k => [.int .u32 (dig a k)])

def limbC : Ctr := { alias := false, of := fun l => match l with
  | [.vs _ _ n sz get, .int .i64 i] => .ex Nat fun a => .pre (padP a n sz get ∧ 0 ≤ i) (.fin (.int .u64 (dig a i.toNat)) [])
  | _ => noC }
def trimC : Ctr := { alias := false, of := fun l => match l with
  | [.vs _ _ n sz get] => .ex Nat fun a => .pre (padP a n sz get) (.fin (natS false a) [])
  | _ => noC }

theorem own_nat {hp : List HO} {i n m : Nat} {z zz : Bool} {get : Nat → List SV} {a : Nat} (hn : n = nl a) (hz : z = zz) (hi : getH hp i = .own z 1 m get) (hg : ∀ j, j < n → get j = [.int .u32 (dig a j)]) :
    le 0 0 (expo hp (.own i 0 n 1)) (natS zz a) := by
  have e : expo hp (.own i 0 n 1) = .vs true z n 1 (fun k => viewN true hp 2 (get (addLo 0 k))) := by
    show view true hp (viewN true hp 2) (.own i 0 n 1) = _
    unfold view
    rw [hi]; rfl
  rw [e]
  unfold natS
  rw [le_vs]
  refine ⟨id, hz, hn, rfl, fun j hj => ?_⟩
  show leXL (viewN true hp 2 (get j)) _
  rw [hg j hj]
  exact leXL_self _
theorem ans_nat {k : SV → List HO → Prop} {al : Bool} {hp : List HO} {i n m : Nat} {z zz : Bool} {get : Nat → List SV} {a : Nat} (h : k (natS zz a) []) (hn : n = nl a) (hz : z = zz) (hi : getH hp i = .own z 1 m get) (hg : ∀ j, j < n → get j = [.int .u32 (dig a j)]) :
    answers al k (.own i 0 n 1) hp := ans_le h (own_nat hn hz hi hg) (fun _ => by simp [natS, freshS, freshL])

theorem ans_natS {k : SV → List HO → Prop} {al : Bool} {hp : List HO} {t z : Bool} {a : Nat} (h : k (natS z a) []) : answers al k (.vs true z (nl a) 1 (fun k => [.int .u32 (dig a k)])) hp :=
  ans_le h (le_self _ trivial) (fun _ => by simp [natS, freshS, freshL])

def R0 : Env := { ct := fun _ => none, fn := fun _ => none, meth := fun _ _ => none }
theorem R0_ok : EnvOk Try.prog R0 := by
  refine ⟨fun f c h => ?_, fun f vf h => ?_, (fun _ _ _ h => by cases h), by kernel_rfl⟩
  · cases h
  · cases h


theorem limb_ok : limbC.ok Try.prog 70 := by
  refine contract Try.func70 v70_is R0_ok 100 limbC fun args k h => ?_
  simp only [limbC] at h
  split at h
  · rename_i tt z n sz get i
    obtain ⟨a, ⟨⟨rfl, hn, ha, hg⟩, hi⟩, h⟩ := h
    refine ⟨[.vs tt z n 1 (fun k => [.int .u32 (dig a k)]), .int .i64 i], by simpa [leL, le] using hg, ?_⟩
    dsimp only [v70, r_end, r_end1, r_nil, r_op, r_opg, r_runOp, r_op0, r_yld0, r_yld1, r_y, r_rbeg, r_rend, r_rend1, r_rfrm, r_rfrm1, r_range, r_rangeK, r_rangeE, r_draw, r_dnil, r_dop, r_dopg, r_dplq, r_dplh, r_dq, r_dq0, r_dcl1, r_dcl0, r_dct1, r_dct0, r_dgd, r_dgq1, r_dgq0, r_dctG, r_op1, r_eff, r_eff0, r_call, r_call0, r_inl, r_g, r_gq, r_gc, r_effg, r_effg0, r_callg, r_callg0, r_fin, r_pre, r_imp, r_all, r_ex, r_fing, r_preg, r_exg, r_inBlock, r_inLoop, r_frame, r_frame1, r_skip, r_stuck, r_region, r_seq, r_cond, r_cond1, r_block, r_exit, r_exit1, r_exit2, r_ret, r_loop, s_args0, s_args1, s_xt, s_xc, noOwn, noOwnL, padL, blankL, callee, calleeM, callArgs, eff, ctOf, ctM, ctI, getL, setL, S.put, S.upd, unopts, unopt, unoptsO, unoptsB, lazyO, guardOf, gbool, eMov, eNot, eNeg, eConv, eExt, eLenArr, eLen, eLenStr, eEqb, eEqv, allEq, eNil, negIf, eBool2, eCmp, eAri, ari, eBit, eDiv, eSh, eMinMax, foldMin, foldMax, kEq, pure1, cmpB, VO.quiet, resVals, resVal, tupled, popRet, popTo, cond, Option.bind, Option.map, eNew, eBox, asCells, lenH, snocH, eFieldAddr, eField, eLoad, cellsAt, getH, setH, dropL, takeL, mkAgg, lenL, lenS, shift, shiftL, shiftH, viewN, viewL, view, andT, junks, List.append_nil, Nat.beq, eIdxAddr, eIdxArr, idxN_0, idxN_1, idxN_2, idxN_3, eIndex, eStore, storeAt, spliceL, ones, one, eSlice, eSliceArr, bounds, subLo_z, addLo_z, subLo_one, addLo_one, eMake, eAppend, readS, repL, buildCells, chunk, purgeL, purgeLL, purgeH, purge, refs, refsL, List.cons_append, List.nil_append, wrOps, wrAl, wrDops, wrC, junkAt, putAll, putHs, headOf, headK, keepG, List.append_eq, headX, chkP, apartP, apartB, blk, strip, runAl, AL.ho, yld, putPs, lenN, findR, notRound, jumpK, jumpPT, jcode, List.map_cons, List.map_nil, ite_self, reduceIte]
    simp only [true_and, and_true, imp_self, implies_true, decide_eq_true_eq, decide_eq_false_iff_not, Nat.reduceAdd, Nat.reduceLeDiff, Bool.not_not, reduceCtorEq, false_imp_iff, Bool.not_eq_true', Bool.not_eq_false', Bool.false_eq_true, and_self, forall_const, ne_eq, not_false_eq_true, Nat.reduceEqDiff]
    refine ⟨fun hlt => ⟨⟨hi, hlt⟩, ans_int ?_⟩, fun hge => ans_int ?_⟩
    · rw [u_nat (Nat.lt_trans (dig_lt _ _) (by decide))]; exact h
    · rw [dig_big ha (by omega)] at h; exact h
  · exact h.1.elim

theorem trim_ok : trimC.ok Try.prog 71 := by
  refine contract Try.func71 v71_is R0_ok 200 trimC fun args k h => ?_
  simp only [trimC] at h
  split at h
  · rename_i tt z n sz get
    obtain ⟨a, ⟨rfl, hn, ha, hg⟩, h⟩ := h
    refine ⟨[.vs tt z n 1 (fun k => [.int .u32 (dig a k)])], by simpa [leL, le] using hg, ?_⟩
    dsimp only [v71, r_end, r_end1, r_nil, r_op, r_opg, r_runOp, r_op0, r_yld0, r_yld1, r_y, r_rbeg, r_rend, r_rend1, r_rfrm, r_rfrm1, r_range, r_rangeK, r_rangeE, r_draw, r_dnil, r_dop, r_dopg, r_dplq, r_dplh, r_dq, r_dq0, r_dcl1, r_dcl0, r_dct1, r_dct0, r_dgd, r_dgq1, r_dgq0, r_dctG, r_op1, r_eff, r_eff0, r_call, r_call0, r_inl, r_g, r_gq, r_gc, r_effg, r_effg0, r_callg, r_callg0, r_fin, r_pre, r_imp, r_all, r_ex, r_fing, r_preg, r_exg, r_inBlock, r_inLoop, r_frame, r_frame1, r_skip, r_stuck, r_region, r_seq, r_cond, r_cond1, r_block, r_exit, r_exit1, r_exit2, r_ret, r_loop, s_args0, s_args1, s_xt, s_xc, noOwn, noOwnL, padL, blankL, callee, calleeM, callArgs, eff, ctOf, ctM, ctI, getL, setL, S.put, S.upd, unopts, unopt, unoptsO, unoptsB, lazyO, guardOf, gbool, eMov, eNot, eNeg, eConv, eExt, eLenArr, eLen, eLenStr, eEqb, eEqv, allEq, eNil, negIf, eBool2, eCmp, eAri, ari, eBit, eDiv, eSh, eMinMax, foldMin, foldMax, kEq, pure1, cmpB, VO.quiet, resVals, resVal, tupled, popRet, popTo, cond, Option.bind, Option.map, eNew, eBox, asCells, lenH, snocH, eFieldAddr, eField, eLoad, cellsAt, getH, setH, dropL, takeL, mkAgg, lenL, lenS, shift, shiftL, shiftH, viewN, viewL, view, andT, junks, List.append_nil, Nat.beq, eIdxAddr, eIdxArr, idxN_0, idxN_1, idxN_2, idxN_3, eIndex, eStore, storeAt, spliceL, ones, one, eSlice, eSliceArr, bounds, subLo_z, addLo_z, subLo_one, addLo_one, eMake, eAppend, readS, repL, buildCells, chunk, purgeL, purgeLL, purgeH, purge, refs, refsL, List.cons_append, List.nil_append, wrOps, wrAl, wrDops, wrC, junkAt, putAll, putHs, headOf, headK, keepG, List.append_eq, headX, chkP, apartP, apartB, blk, strip, runAl, AL.ho, yld, putPs, lenN, findR, notRound, jumpK, jumpPT, jcode, List.map_cons, List.map_nil, ite_self, reduceIte]
    simp only [true_and, and_true, imp_self, implies_true, decide_eq_true_eq, decide_eq_false_iff_not, Nat.reduceAdd, Nat.reduceLeDiff, Bool.not_not, reduceCtorEq, false_imp_iff, Bool.not_eq_true', Bool.not_eq_false', Bool.false_eq_true, and_self, forall_const, ne_eq, not_false_eq_true, Nat.reduceEqDiff]
    refine Loop.keep [0, 2] Nat (fun j => [(3, .int .i64 j)]) (fun _ => []) [] (fun j => j ≤ n ∧ a < 4294967296 ^ j) (fun j => j) ?_ ?_
    · refine ⟨n, ⟨Nat.le_refl _, ha⟩, ?_⟩
      dsimp only [r_end, r_end1, r_nil, r_op, r_opg, r_runOp, r_op0, r_yld0, r_yld1, r_y, r_rbeg, r_rend, r_rend1, r_rfrm, r_rfrm1, r_range, r_rangeK, r_rangeE, r_draw, r_dnil, r_dop, r_dopg, r_dplq, r_dplh, r_dq, r_dq0, r_dcl1, r_dcl0, r_dct1, r_dct0, r_dgd, r_dgq1, r_dgq0, r_dctG, r_op1, r_eff, r_eff0, r_call, r_call0, r_inl, r_g, r_gq, r_gc, r_effg, r_effg0, r_callg, r_callg0, r_fin, r_pre, r_imp, r_all, r_ex, r_fing, r_preg, r_exg, r_inBlock, r_inLoop, r_frame, r_frame1, r_skip, r_stuck, r_region, r_seq, r_cond, r_cond1, r_block, r_exit, r_exit1, r_exit2, r_ret, r_loop, s_args0, s_args1, s_xt, s_xc, noOwn, noOwnL, padL, blankL, callee, calleeM, callArgs, eff, ctOf, ctM, ctI, getL, setL, S.put, S.upd, unopts, unopt, unoptsO, unoptsB, lazyO, guardOf, gbool, eMov, eNot, eNeg, eConv, eExt, eLenArr, eLen, eLenStr, eEqb, eEqv, allEq, eNil, negIf, eBool2, eCmp, eAri, ari, eBit, eDiv, eSh, eMinMax, foldMin, foldMax, kEq, pure1, cmpB, VO.quiet, resVals, resVal, tupled, popRet, popTo, cond, Option.bind, Option.map, eNew, eBox, asCells, lenH, snocH, eFieldAddr, eField, eLoad, cellsAt, getH, setH, dropL, takeL, mkAgg, lenL, lenS, shift, shiftL, shiftH, viewN, viewL, view, andT, junks, List.append_nil, Nat.beq, eIdxAddr, eIdxArr, idxN_0, idxN_1, idxN_2, idxN_3, eIndex, eStore, storeAt, spliceL, ones, one, eSlice, eSliceArr, bounds, subLo_z, addLo_z, subLo_one, addLo_one, eMake, eAppend, readS, repL, buildCells, chunk, purgeL, purgeLL, purgeH, purge, refs, refsL, List.cons_append, List.nil_append, wrOps, wrAl, wrDops, wrC, junkAt, putAll, putHs, headOf, headK, keepG, List.append_eq, headX, chkP, apartP, apartB, blk, strip, runAl, AL.ho, yld, putPs, lenN, findR, notRound, jumpK, jumpPT, jcode, List.map_cons, List.map_nil, ite_self, reduceIte]
      simp only [leS_mk, leL_cons, leL_nil, le_junk, le_int, le_bool, le_nil, leLL_nil, leLL_cons, leH_cons, leH_nil, leH1_box, leH1_own, leH1_gone, le_vs, le_agg, le_tup, le_ptr, le_own, le_xp, le_fn, le_opt, le_val, le_elem, le_nil_own, le_nil_vs, leH_ghost, leL_chunk, leXL_id, bnd_int, bnd_bool, bnd_val, bnd_nil, bnd_junk, bnd_vs, bnd_xp, bnd_agg, bnd_tup, bnd_ptr, bnd_own, bnd_elem, bnd_fn, bnd_iface, bnd_opt, bndL_nil, bndL_cons, lenH_cons, lenH_nil, imp_self, implies_true, true_and, and_true]
    · rintro j ⟨hj, haj⟩
      dsimp only [Int.toNat_natCast, r_end, r_end1, r_nil, r_op, r_opg, r_runOp, r_op0, r_yld0, r_yld1, r_y, r_rbeg, r_rend, r_rend1, r_rfrm, r_rfrm1, r_range, r_rangeK, r_rangeE, r_draw, r_dnil, r_dop, r_dopg, r_dplq, r_dplh, r_dq, r_dq0, r_dcl1, r_dcl0, r_dct1, r_dct0, r_dgd, r_dgq1, r_dgq0, r_dctG, r_op1, r_eff, r_eff0, r_call, r_call0, r_inl, r_g, r_gq, r_gc, r_effg, r_effg0, r_callg, r_callg0, r_fin, r_pre, r_imp, r_all, r_ex, r_fing, r_preg, r_exg, r_inBlock, r_inLoop, r_frame, r_frame1, r_skip, r_stuck, r_region, r_seq, r_cond, r_cond1, r_block, r_exit, r_exit1, r_exit2, r_ret, r_loop, s_args0, s_args1, s_xt, s_xc, noOwn, noOwnL, padL, blankL, callee, calleeM, callArgs, eff, ctOf, ctM, ctI, getL, setL, S.put, S.upd, unopts, unopt, unoptsO, unoptsB, lazyO, guardOf, gbool, eMov, eNot, eNeg, eConv, eExt, eLenArr, eLen, eLenStr, eEqb, eEqv, allEq, eNil, negIf, eBool2, eCmp, eAri, ari, eBit, eDiv, eSh, eMinMax, foldMin, foldMax, kEq, pure1, cmpB, VO.quiet, resVals, resVal, tupled, popRet, popTo, cond, Option.bind, Option.map, eNew, eBox, asCells, lenH, snocH, eFieldAddr, eField, eLoad, cellsAt, getH, setH, dropL, takeL, mkAgg, lenL, lenS, shift, shiftL, shiftH, viewN, viewL, view, andT, junks, List.append_nil, Nat.beq, eIdxAddr, eIdxArr, idxN_0, idxN_1, idxN_2, idxN_3, eIndex, eStore, storeAt, spliceL, ones, one, eSlice, eSliceArr, bounds, subLo_z, addLo_z, subLo_one, addLo_one, eMake, eAppend, readS, repL, buildCells, chunk, purgeL, purgeLL, purgeH, purge, refs, refsL, List.cons_append, List.nil_append, wrOps, wrAl, wrDops, wrC, junkAt, putAll, putHs, headOf, headK, keepG, List.append_eq, headX, chkP, apartP, apartB, blk, strip, runAl, AL.ho, yld, putPs, lenN, findR, notRound, jumpK, jumpPT, jcode, List.map_cons, List.map_nil, ite_self, reduceIte]
      simp only [true_and, and_true, imp_self, implies_true, decide_eq_true_eq, decide_eq_false_iff_not, Nat.reduceAdd, Nat.reduceLeDiff, Bool.not_not, reduceCtorEq, false_imp_iff, Bool.not_eq_true', Bool.not_eq_false', Bool.false_eq_true, and_self, forall_const, ne_eq, not_false_eq_true, Nat.reduceEqDiff]
      refine ⟨fun hlt => ?_, fun hb => ?_, fun hb => ?_⟩
      · rw [w_pred (by omega) (by omega)]; omega
      · rw [Bool.and_eq_true, decide_eq_true_eq, decide_eq_true_eq] at hb
        obtain ⟨h1, h2⟩ := hb
        rw [w_pred (by omega) (by omega), Int.toNat_natCast] at h2
        refine ⟨j - 1, ⟨by omega, ?_⟩, by omega, ?_⟩
        · obtain ⟨m, rfl⟩ : ∃ m, j = m + 1 := ⟨j - 1, by omega⟩
          exact lt_trim haj (by simp at h2; exact_mod_cast h2)
        · rw [w_pred (by omega) (by omega)]
          simp only [leS_mk, leL_cons, leL_nil, le_junk, le_int, le_bool, le_nil, leLL_nil, leLL_cons, leH_cons, leH_nil, leH1_box, leH1_own, leH1_gone, le_vs, le_agg, le_tup, le_ptr, le_own, le_xp, le_fn, le_opt, le_val, le_elem, le_nil_own, le_nil_vs, leH_ghost, leL_chunk, leXL_id, bnd_int, bnd_bool, bnd_val, bnd_nil, bnd_junk, bnd_vs, bnd_xp, bnd_agg, bnd_tup, bnd_ptr, bnd_own, bnd_elem, bnd_fn, bnd_iface, bnd_opt, bndL_nil, bndL_cons, lenH_cons, lenH_nil, imp_self, implies_true, true_and, and_true] <;> simp
      · have e : nl a = j := by
          refine nl_trim haj ?_
          rw [Bool.and_eq_false_iff, decide_eq_false_iff_not, decide_eq_false_iff_not] at hb
          rcases Nat.eq_zero_or_pos j with h0 | h0
          · exact .inl h0
          · refine .inr fun hh => hb.elim (fun h => h (by omega)) fun h => h ?_
            rw [w_pred h0 (by omega), Int.toNat_natCast, hh]; rfl
        subst e
        dsimp only [Int.toNat_natCast, r_end, r_end1, r_nil, r_op, r_opg, r_runOp, r_op0, r_yld0, r_yld1, r_y, r_rbeg, r_rend, r_rend1, r_rfrm, r_rfrm1, r_range, r_rangeK, r_rangeE, r_draw, r_dnil, r_dop, r_dopg, r_dplq, r_dplh, r_dq, r_dq0, r_dcl1, r_dcl0, r_dct1, r_dct0, r_dgd, r_dgq1, r_dgq0, r_dctG, r_op1, r_eff, r_eff0, r_call, r_call0, r_inl, r_g, r_gq, r_gc, r_effg, r_effg0, r_callg, r_callg0, r_fin, r_pre, r_imp, r_all, r_ex, r_fing, r_preg, r_exg, r_inBlock, r_inLoop, r_frame, r_frame1, r_skip, r_stuck, r_region, r_seq, r_cond, r_cond1, r_block, r_exit, r_exit1, r_exit2, r_ret, r_loop, s_args0, s_args1, s_xt, s_xc, noOwn, noOwnL, padL, blankL, callee, calleeM, callArgs, eff, ctOf, ctM, ctI, getL, setL, S.put, S.upd, unopts, unopt, unoptsO, unoptsB, lazyO, guardOf, gbool, eMov, eNot, eNeg, eConv, eExt, eLenArr, eLen, eLenStr, eEqb, eEqv, allEq, eNil, negIf, eBool2, eCmp, eAri, ari, eBit, eDiv, eSh, eMinMax, foldMin, foldMax, kEq, pure1, cmpB, VO.quiet, resVals, resVal, tupled, popRet, popTo, cond, Option.bind, Option.map, eNew, eBox, asCells, lenH, snocH, eFieldAddr, eField, eLoad, cellsAt, getH, setH, dropL, takeL, mkAgg, lenL, lenS, shift, shiftL, shiftH, viewN, viewL, view, andT, junks, List.append_nil, Nat.beq, eIdxAddr, eIdxArr, idxN_0, idxN_1, idxN_2, idxN_3, eIndex, eStore, storeAt, spliceL, ones, one, eSlice, eSliceArr, bounds, subLo_z, addLo_z, subLo_one, addLo_one, eMake, eAppend, readS, repL, buildCells, chunk, purgeL, purgeLL, purgeH, purge, refs, refsL, List.cons_append, List.nil_append, wrOps, wrAl, wrDops, wrC, junkAt, putAll, putHs, headOf, headK, keepG, List.append_eq, headX, chkP, apartP, apartB, blk, strip, runAl, AL.ho, yld, putPs, lenN, findR, notRound, jumpK, jumpPT, jcode, List.map_cons, List.map_nil, ite_self, reduceIte]
        simp only [true_and, and_true, imp_self, implies_true, decide_eq_true_eq, decide_eq_false_iff_not, Nat.reduceAdd, Nat.reduceLeDiff, Bool.not_not, reduceCtorEq, false_imp_iff, Bool.not_eq_true', Bool.not_eq_false', Bool.false_eq_true, and_self, forall_const, ne_eq, not_false_eq_true, Nat.reduceEqDiff]
        refine ⟨by decide, ⟨by omega, by omega⟩, by unfold capOk; omega, ans_nat h (Nat.zero_add _) ?_ rfl fun j hj => ?_⟩
        · rfl
        · rw [if_neg (Nat.not_lt_zero _)]; rfl
  · exact h.1.elim
def ofC : Ctr := { alias := false, of := fun l => match l with
  | [.int .u64 n] => .pre (0 ≤ n ∧ n < 18446744073709551616) (.fin (natS false n.toNat) [])
  | _ => noC }
def orderC : Ctr := { alias := false, of := fun l => match l with
  | [.vs _ _ n sz get, .vs _ _ m sz' get'] => .ex Nat fun a => .ex Nat fun b => .pre (padP a n sz get ∧ padP b m sz' get') (.fin (.int .i64 (ordN a b)) [])
  | _ => noC }
def plusC : Ctr := { alias := false, of := fun l => match l with
  | [.vs _ _ n sz get, .vs _ _ m sz' get'] => .ex Nat fun a => .ex Nat fun b => .pre (padP a n sz get ∧ padP b m sz' get' ∧ n ≤ 99999 ∧ m ≤ 99999) (.fin (natS false (a + b)) [])
  | _ => noC }

def R1 : Env := { ct := fun n => match n with | 70 => some limbC | 71 => some trimC | _ => none, fn := fun _ => none, meth := fun _ _ => none }
theorem R1_ct70 : R1.ct 70 = some limbC := rfl
theorem R1_ct71 : R1.ct 71 = some trimC := rfl
theorem R1_ok : EnvOk Try.prog R1 := by
  refine ⟨fun f c h => ?_, fun f vf h => ?_, (fun _ _ _ h => by cases h), by kernel_rfl⟩
  · simp only [R1] at h
    split at h
    · cases h; exact ⟨limb_ok, Try.f70, Try.func70, by kernel_rfl, by kernel_rfl⟩
    · cases h; exact ⟨trim_ok, Try.f71, Try.func71, by kernel_rfl, by kernel_rfl⟩
    · cases h
  · cases h


theorem of_pad (n : Nat) (h : n < 18446744073709551616) : padP n 2 1 fun k => viewL false [HO.own false 1 2 (chunk 1 [SV.int .u32 (IntKind.u32.wrap ((n : Int).tmod 4294967296)), SV.int .u32 (IntKind.u32.wrap (IntKind.u64.wrap ((n : Int).tdiv 4294967296)))])]
    (fun x => viewL false [HO.own false 1 2 (chunk 1 [SV.int .u32 (IntKind.u32.wrap ((n : Int).tmod 4294967296)), SV.int .u32 (IntKind.u32.wrap (IntKind.u64.wrap ((n : Int).tdiv 4294967296)))])] (fun x => junks x) x)
    (takeL 1 (dropL (k * 1) [SV.int .u32 (IntKind.u32.wrap ((n : Int).tmod 4294967296)), SV.int .u32 (IntKind.u32.wrap (IntKind.u64.wrap ((n : Int).tdiv 4294967296)))])) := by
  refine ⟨rfl, by decide, by omega, fun k hk => ?_⟩
  have h0 : dig n 0 = n % 4294967296 := dig_0 n
  have h1 : dig n 1 = n / 4294967296 := by rw [dig_succ, dig_0]; omega
  match k, hk with
  | 0, _ => rw [h0, u3_rem]; exact leXL_self _
  | 1, _ => rw [h1, u_quo h, u3_nat (by omega)]; exact leXL_self _

theorem of_ok : ofC.ok Try.prog 72 := by
  refine contract Try.func72 v72_is R1_ok 200 ofC fun args k h => ?_
  simp only [ofC] at h
  split at h
  · rename_i n
    obtain ⟨⟨h0, h1⟩, h⟩ := h
    obtain ⟨n, rfl⟩ := Int.eq_ofNat_of_zero_le h0
    refine ⟨[.int .u64 n], by simp [leL, le], ?_⟩
    dsimp only [v72, R1_ct71, trimC, natS, r_end, r_end1, r_nil, r_op, r_opg, r_runOp, r_op0, r_yld0, r_yld1, r_y, r_rbeg, r_rend, r_rend1, r_rfrm, r_rfrm1, r_range, r_rangeK, r_rangeE, r_draw, r_dnil, r_dop, r_dopg, r_dplq, r_dplh, r_dq, r_dq0, r_dcl1, r_dcl0, r_dct1, r_dct0, r_dgd, r_dgq1, r_dgq0, r_dctG, r_op1, r_eff, r_eff0, r_call, r_call0, r_inl, r_g, r_gq, r_gc, r_effg, r_effg0, r_callg, r_callg0, r_fin, r_pre, r_imp, r_all, r_ex, r_fing, r_preg, r_exg, r_inBlock, r_inLoop, r_frame, r_frame1, r_skip, r_stuck, r_region, r_seq, r_cond, r_cond1, r_block, r_exit, r_exit1, r_exit2, r_ret, r_loop, s_args0, s_args1, s_xt, s_xc, noOwn, noOwnL, padL, blankL, callee, calleeM, callArgs, eff, ctOf, ctM, ctI, getL, setL, S.put, S.upd, unopts, unopt, unoptsO, unoptsB, lazyO, guardOf, gbool, eMov, eNot, eNeg, eConv, eExt, eLenArr, eLen, eLenStr, eEqb, eEqv, allEq, eNil, negIf, eBool2, eCmp, eAri, ari, eBit, eDiv, eSh, eMinMax, foldMin, foldMax, kEq, pure1, cmpB, VO.quiet, resVals, resVal, tupled, popRet, popTo, cond, Option.bind, Option.map, eNew, eBox, asCells, lenH, snocH, eFieldAddr, eField, eLoad, cellsAt, getH, setH, dropL, takeL, mkAgg, lenL, lenS, shift, shiftL, shiftH, viewN, viewL, view, andT, junks, List.append_nil, Nat.beq, eIdxAddr, eIdxArr, idxN_0, idxN_1, idxN_2, idxN_3, eIndex, eStore, storeAt, spliceL, ones, one, eSlice, eSliceArr, bounds, subLo_z, addLo_z, subLo_one, addLo_one, eMake, eAppend, readS, repL, buildCells, chunk, purgeL, purgeLL, purgeH, purge, refs, refsL, List.cons_append, List.nil_append, wrOps, wrAl, wrDops, wrC, junkAt, putAll, putHs, headOf, headK, keepG, List.append_eq, headX, chkP, apartP, apartB, blk, strip, runAl, AL.ho, yld, putPs, lenN, findR, notRound, jumpK, jumpPT, jcode, List.map_cons, List.map_nil, ite_self, reduceIte]
    simp only [true_and, and_true, imp_self, implies_true, decide_eq_true_eq, decide_eq_false_iff_not, Nat.reduceAdd, Nat.reduceLeDiff, Bool.not_not, reduceCtorEq, false_imp_iff, Bool.not_eq_true', Bool.not_eq_false', Bool.false_eq_true, and_self, forall_const, ne_eq, not_false_eq_true, Nat.reduceEqDiff]
    refine ⟨by decide, by decide, by decide, n, of_pad n (by omega), ?_⟩
    exact ans_natS (t := true) h
  · exact h.1.elim

theorem order_ok : orderC.ok Try.prog 50 := by
  refine contract Try.func50 v50_is R1_ok 200 orderC fun args k h => ?_
  simp only [orderC] at h
  split at h
  · rename_i t1 z1 n sz get t2 z2 m sz' get'
    obtain ⟨a, b, ⟨⟨rfl, hn, ha, hg⟩, rfl, hm, hb, hg'⟩, h⟩ := h
    refine ⟨[.vs t1 z1 n 1 (fun k => [.int .u32 (dig a k)]), .vs t2 z2 m 1 (fun k => [.int .u32 (dig b k)])], ⟨by simpa [le] using hg, by simpa [le] using hg', trivial⟩, ?_⟩
    dsimp only [v50, R1_ct70, limbC, r_end, r_end1, r_nil, r_op, r_opg, r_runOp, r_op0, r_yld0, r_yld1, r_y, r_rbeg, r_rend, r_rend1, r_rfrm, r_rfrm1, r_range, r_rangeK, r_rangeE, r_draw, r_dnil, r_dop, r_dopg, r_dplq, r_dplh, r_dq, r_dq0, r_dcl1, r_dcl0, r_dct1, r_dct0, r_dgd, r_dgq1, r_dgq0, r_dctG, r_op1, r_eff, r_eff0, r_call, r_call0, r_inl, r_g, r_gq, r_gc, r_effg, r_effg0, r_callg, r_callg0, r_fin, r_pre, r_imp, r_all, r_ex, r_fing, r_preg, r_exg, r_inBlock, r_inLoop, r_frame, r_frame1, r_skip, r_stuck, r_region, r_seq, r_cond, r_cond1, r_block, r_exit, r_exit1, r_exit2, r_ret, r_loop, s_args0, s_args1, s_xt, s_xc, noOwn, noOwnL, padL, blankL, callee, calleeM, callArgs, eff, ctOf, ctM, ctI, getL, setL, S.put, S.upd, unopts, unopt, unoptsO, unoptsB, lazyO, guardOf, gbool, eMov, eNot, eNeg, eConv, eExt, eLenArr, eLen, eLenStr, eEqb, eEqv, allEq, eNil, negIf, eBool2, eCmp, eAri, ari, eBit, eDiv, eSh, eMinMax, foldMin, foldMax, kEq, pure1, cmpB, VO.quiet, resVals, resVal, tupled, popRet, popTo, cond, Option.bind, Option.map, eNew, eBox, asCells, lenH, snocH, eFieldAddr, eField, eLoad, cellsAt, getH, setH, dropL, takeL, mkAgg, lenL, lenS, shift, shiftL, shiftH, viewN, viewL, view, andT, junks, List.append_nil, Nat.beq, eIdxAddr, eIdxArr, idxN_0, idxN_1, idxN_2, idxN_3, eIndex, eStore, storeAt, spliceL, ones, one, eSlice, eSliceArr, bounds, subLo_z, addLo_z, subLo_one, addLo_one, eMake, eAppend, readS, repL, buildCells, chunk, purgeL, purgeLL, purgeH, purge, refs, refsL, List.cons_append, List.nil_append, wrOps, wrAl, wrDops, wrC, junkAt, putAll, putHs, headOf, headK, keepG, List.append_eq, headX, chkP, apartP, apartB, blk, strip, runAl, AL.ho, yld, putPs, lenN, findR, notRound, jumpK, jumpPT, jcode, List.map_cons, List.map_nil, ite_self, reduceIte]
    simp only [true_and, and_true, imp_self, implies_true, decide_eq_true_eq, decide_eq_false_iff_not, Nat.reduceAdd, Nat.reduceLeDiff, Bool.not_not, reduceCtorEq, false_imp_iff, Bool.not_eq_true', Bool.not_eq_false', Bool.false_eq_true, and_self, forall_const, ne_eq, not_false_eq_true, Nat.reduceEqDiff]
    refine Loop.keep [0, 0, 3] Nat (fun j => [(5, .int .i64 ((j : Int) - 1))]) (fun _ => []) [] (fun j => j ≤ 100000 ∧ ∀ i, j ≤ i → dig a i = dig b i) (fun j => j) ?_ ?_
    · refine ⟨max n m, ⟨by omega, fun i hi => by rw [dig_big ha (by omega), dig_big hb (by omega)]⟩, ?_⟩
      dsimp only [r_end, r_end1, r_nil, r_op, r_opg, r_runOp, r_op0, r_yld0, r_yld1, r_y, r_rbeg, r_rend, r_rend1, r_rfrm, r_rfrm1, r_range, r_rangeK, r_rangeE, r_draw, r_dnil, r_dop, r_dopg, r_dplq, r_dplh, r_dq, r_dq0, r_dcl1, r_dcl0, r_dct1, r_dct0, r_dgd, r_dgq1, r_dgq0, r_dctG, r_op1, r_eff, r_eff0, r_call, r_call0, r_inl, r_g, r_gq, r_gc, r_effg, r_effg0, r_callg, r_callg0, r_fin, r_pre, r_imp, r_all, r_ex, r_fing, r_preg, r_exg, r_inBlock, r_inLoop, r_frame, r_frame1, r_skip, r_stuck, r_region, r_seq, r_cond, r_cond1, r_block, r_exit, r_exit1, r_exit2, r_ret, r_loop, s_args0, s_args1, s_xt, s_xc, noOwn, noOwnL, padL, blankL, callee, calleeM, callArgs, eff, ctOf, ctM, ctI, getL, setL, S.put, S.upd, unopts, unopt, unoptsO, unoptsB, lazyO, guardOf, gbool, eMov, eNot, eNeg, eConv, eExt, eLenArr, eLen, eLenStr, eEqb, eEqv, allEq, eNil, negIf, eBool2, eCmp, eAri, ari, eBit, eDiv, eSh, eMinMax, foldMin, foldMax, kEq, pure1, cmpB, VO.quiet, resVals, resVal, tupled, popRet, popTo, cond, Option.bind, Option.map, eNew, eBox, asCells, lenH, snocH, eFieldAddr, eField, eLoad, cellsAt, getH, setH, dropL, takeL, mkAgg, lenL, lenS, shift, shiftL, shiftH, viewN, viewL, view, andT, junks, List.append_nil, Nat.beq, eIdxAddr, eIdxArr, idxN_0, idxN_1, idxN_2, idxN_3, eIndex, eStore, storeAt, spliceL, ones, one, eSlice, eSliceArr, bounds, subLo_z, addLo_z, subLo_one, addLo_one, eMake, eAppend, readS, repL, buildCells, chunk, purgeL, purgeLL, purgeH, purge, refs, refsL, List.cons_append, List.nil_append, wrOps, wrAl, wrDops, wrC, junkAt, putAll, putHs, headOf, headK, keepG, List.append_eq, headX, chkP, apartP, apartB, blk, strip, runAl, AL.ho, yld, putPs, lenN, findR, notRound, jumpK, jumpPT, jcode, List.map_cons, List.map_nil, ite_self, reduceIte]
      simp only [leS_mk, leL_cons, leL_nil, le_junk, le_int, le_bool, le_nil, leLL_nil, leLL_cons, leH_cons, leH_nil, leH1_box, leH1_own, leH1_gone, le_vs, le_agg, le_tup, le_ptr, le_own, le_xp, le_fn, le_opt, le_val, le_elem, le_nil_own, le_nil_vs, leH_ghost, leL_chunk, leXL_id, bnd_int, bnd_bool, bnd_val, bnd_nil, bnd_junk, bnd_vs, bnd_xp, bnd_agg, bnd_tup, bnd_ptr, bnd_own, bnd_elem, bnd_fn, bnd_iface, bnd_opt, bndL_nil, bndL_cons, lenH_cons, lenH_nil, imp_self, implies_true, true_and, and_true]
      rw [IntWalk.i64_in _ (by omega)]
      simp <;> omega
    · rintro j ⟨hj, haj⟩
      dsimp only [R1_ct70, limbC, r_end, r_end1, r_nil, r_op, r_opg, r_runOp, r_op0, r_yld0, r_yld1, r_y, r_rbeg, r_rend, r_rend1, r_rfrm, r_rfrm1, r_range, r_rangeK, r_rangeE, r_draw, r_dnil, r_dop, r_dopg, r_dplq, r_dplh, r_dq, r_dq0, r_dcl1, r_dcl0, r_dct1, r_dct0, r_dgd, r_dgq1, r_dgq0, r_dctG, r_op1, r_eff, r_eff0, r_call, r_call0, r_inl, r_g, r_gq, r_gc, r_effg, r_effg0, r_callg, r_callg0, r_fin, r_pre, r_imp, r_all, r_ex, r_fing, r_preg, r_exg, r_inBlock, r_inLoop, r_frame, r_frame1, r_skip, r_stuck, r_region, r_seq, r_cond, r_cond1, r_block, r_exit, r_exit1, r_exit2, r_ret, r_loop, s_args0, s_args1, s_xt, s_xc, noOwn, noOwnL, padL, blankL, callee, calleeM, callArgs, eff, ctOf, ctM, ctI, getL, setL, S.put, S.upd, unopts, unopt, unoptsO, unoptsB, lazyO, guardOf, gbool, eMov, eNot, eNeg, eConv, eExt, eLenArr, eLen, eLenStr, eEqb, eEqv, allEq, eNil, negIf, eBool2, eCmp, eAri, ari, eBit, eDiv, eSh, eMinMax, foldMin, foldMax, kEq, pure1, cmpB, VO.quiet, resVals, resVal, tupled, popRet, popTo, cond, Option.bind, Option.map, eNew, eBox, asCells, lenH, snocH, eFieldAddr, eField, eLoad, cellsAt, getH, setH, dropL, takeL, mkAgg, lenL, lenS, shift, shiftL, shiftH, viewN, viewL, view, andT, junks, List.append_nil, Nat.beq, eIdxAddr, eIdxArr, idxN_0, idxN_1, idxN_2, idxN_3, eIndex, eStore, storeAt, spliceL, ones, one, eSlice, eSliceArr, bounds, subLo_z, addLo_z, subLo_one, addLo_one, eMake, eAppend, readS, repL, buildCells, chunk, purgeL, purgeLL, purgeH, purge, refs, refsL, List.cons_append, List.nil_append, wrOps, wrAl, wrDops, wrC, junkAt, putAll, putHs, headOf, headK, keepG, List.append_eq, headX, chkP, apartP, apartB, blk, strip, runAl, AL.ho, yld, putPs, lenN, findR, notRound, jumpK, jumpPT, jcode, List.map_cons, List.map_nil, ite_self, reduceIte]
      simp only [true_and, and_true, imp_self, implies_true, decide_eq_true_eq, decide_eq_false_iff_not, Nat.reduceAdd, Nat.reduceLeDiff, Bool.not_not, reduceCtorEq, false_imp_iff, Bool.not_eq_true', Bool.not_eq_false', Bool.false_eq_true, and_self, forall_const, ne_eq, not_false_eq_true, Nat.reduceEqDiff]
      refine ⟨fun hlt => ?_, fun hge => ?_⟩
      · obtain ⟨i, rfl⟩ : ∃ i, j = i + 1 := ⟨j - 1, by omega⟩
        have e : ((i + 1 : Nat) : Int) - 1 = i := by omega
        have gt : ∀ t, i < t → dig a t = dig b t := fun t ht => haj t (by omega)
        rw [e]
        simp only [Int.toNat_natCast]
        refine ⟨a, ⟨padP_self hn ha, by omega⟩, b, ⟨padP_self hm hb, by omega⟩, fun hc => ans_int ?_, fun hc => ⟨a, ⟨padP_self hn ha, by omega⟩, b, ⟨padP_self hm hb, by omega⟩, fun hd => ans_int ?_, fun hd => ?_⟩⟩
        · have := dig_cmp gt (by omega : dig a i < dig b i)
          rw [ordN, if_pos this] at h; exact h
        · have := dig_cmp (fun t ht => (gt t ht).symm) (by omega : dig b i < dig a i)
          rw [ordN, if_neg (by omega), if_pos this] at h; exact h
        · refine ⟨i, ⟨by omega, fun t ht => ?_⟩, by omega, ?_⟩
          · rcases Nat.eq_or_lt_of_le ht with rfl | ht
            · omega
            · exact gt t ht
          · simp only [leS_mk, leL_cons, leL_nil, le_junk, le_int, le_bool, le_nil, leLL_nil, leLL_cons, leH_cons, leH_nil, leH1_box, leH1_own, leH1_gone, le_vs, le_agg, le_tup, le_ptr, le_own, le_xp, le_fn, le_opt, le_val, le_elem, le_nil_own, le_nil_vs, leH_ghost, leL_chunk, leXL_id, bnd_int, bnd_bool, bnd_val, bnd_nil, bnd_junk, bnd_vs, bnd_xp, bnd_agg, bnd_tup, bnd_ptr, bnd_own, bnd_elem, bnd_fn, bnd_iface, bnd_opt, bndL_nil, bndL_cons, lenH_cons, lenH_nil, imp_self, implies_true, true_and, and_true]
            rw [IntWalk.i64_in _ (by omega)]
      · obtain rfl : j = 0 := by omega
        have : a = b := dig_all fun i => haj i (Nat.zero_le _)
        rw [ordN, if_neg (by omega), if_neg (by omega)] at h
        exact ans_int h
  · exact h.1.elim

theorem plus_ok : plusC.ok Try.prog 51 := by
  refine contract Try.func51 v51_is R1_ok 200 plusC fun args k h => ?_
  simp only [plusC] at h
  split at h
  · rename_i t1 z1 n sz get t2 z2 m sz' get'
    obtain ⟨a, b, ⟨⟨rfl, hn, ha, hg⟩, ⟨rfl, hm, hb, hg'⟩, hn9, hm9⟩, h⟩ := h
    refine ⟨[.vs t1 z1 n 1 (fun k => [.int .u32 (dig a k)]), .vs t2 z2 m 1 (fun k => [.int .u32 (dig b k)])], ⟨by simpa [le] using hg, by simpa [le] using hg', trivial⟩, ?_⟩
    dsimp only [v51, r_end, r_end1, r_nil, r_op, r_opg, r_runOp, r_op0, r_yld0, r_yld1, r_y, r_rbeg, r_rend, r_rend1, r_rfrm, r_rfrm1, r_range, r_rangeK, r_rangeE, r_draw, r_dnil, r_dop, r_dopg, r_dplq, r_dplh, r_dq, r_dq0, r_dcl1, r_dcl0, r_dct1, r_dct0, r_dgd, r_dgq1, r_dgq0, r_dctG, r_op1, r_eff, r_eff0, r_call, r_call0, r_inl, r_g, r_gq, r_gc, r_effg, r_effg0, r_callg, r_callg0, r_fin, r_pre, r_imp, r_all, r_ex, r_fing, r_preg, r_exg, r_inBlock, r_inLoop, r_frame, r_frame1, r_skip, r_stuck, r_region, r_seq, r_cond, r_cond1, r_block, r_exit, r_exit1, r_exit2, r_ret, r_loop, s_args0, s_args1, s_xt, s_xc, noOwn, noOwnL, padL, blankL, callee, calleeM, callArgs, eff, ctOf, ctM, ctI, getL, setL, S.put, S.upd, unopts, unopt, unoptsO, unoptsB, lazyO, guardOf, gbool, eMov, eNot, eNeg, eConv, eExt, eLenArr, eLen, eLenStr, eEqb, eEqv, allEq, eNil, negIf, eBool2, eCmp, eAri, ari, eBit, eDiv, eSh, eMinMax, foldMin, foldMax, kEq, pure1, cmpB, VO.quiet, resVals, resVal, tupled, popRet, popTo, cond, Option.bind, Option.map, eNew, eBox, asCells, lenH, snocH, eFieldAddr, eField, eLoad, cellsAt, getH, setH, dropL, takeL, mkAgg, lenL, lenS, shift, shiftL, shiftH, viewN, viewL, view, andT, junks, List.append_nil, Nat.beq, eIdxAddr, eIdxArr, idxN_0, idxN_1, idxN_2, idxN_3, eIndex, eStore, storeAt, spliceL, ones, one, eSlice, eSliceArr, bounds, subLo_z, addLo_z, subLo_one, addLo_one, eMake, eAppend, readS, repL, buildCells, chunk, purgeL, purgeLL, purgeH, purge, refs, refsL, List.cons_append, List.nil_append, wrOps, wrAl, wrDops, wrC, junkAt, putAll, putHs, headOf, headK, keepG, List.append_eq, headX, chkP, apartP, apartB, blk, strip, runAl, AL.ho, yld, putPs, lenN, findR, notRound, jumpK, jumpPT, jcode, List.map_cons, List.map_nil, ite_self, reduceIte]
    simp only [true_and, and_true, imp_self, implies_true, decide_eq_true_eq, decide_eq_false_iff_not, Nat.reduceAdd, Nat.reduceLeDiff, Bool.not_not, reduceCtorEq, false_imp_iff, Bool.not_eq_true', Bool.not_eq_false', Bool.false_eq_true, and_self, forall_const, ne_eq, not_false_eq_true, Nat.reduceEqDiff]
    refine Loop.keep [0, 0, 3, 0, 0] Nat (fun i => [(5, .own 0 0 i 1), (6, .int .u64 (cy a b i)), (7, .int .i64 i)]) (fun i => [(0, .own (decide (i = 0)) 1 i (fun k => [.int .u32 (dig (a + b) k)]))]) [.gone] (fun i => i ≤ max n m + 1) (fun i => max n m + 1 - i) ?_ ?_
    · refine ⟨0, by omega, ?_⟩
      dsimp only [r_end, r_end1, r_nil, r_op, r_opg, r_runOp, r_op0, r_yld0, r_yld1, r_y, r_rbeg, r_rend, r_rend1, r_rfrm, r_rfrm1, r_range, r_rangeK, r_rangeE, r_draw, r_dnil, r_dop, r_dopg, r_dplq, r_dplh, r_dq, r_dq0, r_dcl1, r_dcl0, r_dct1, r_dct0, r_dgd, r_dgq1, r_dgq0, r_dctG, r_op1, r_eff, r_eff0, r_call, r_call0, r_inl, r_g, r_gq, r_gc, r_effg, r_effg0, r_callg, r_callg0, r_fin, r_pre, r_imp, r_all, r_ex, r_fing, r_preg, r_exg, r_inBlock, r_inLoop, r_frame, r_frame1, r_skip, r_stuck, r_region, r_seq, r_cond, r_cond1, r_block, r_exit, r_exit1, r_exit2, r_ret, r_loop, s_args0, s_args1, s_xt, s_xc, noOwn, noOwnL, padL, blankL, callee, calleeM, callArgs, eff, ctOf, ctM, ctI, getL, setL, S.put, S.upd, unopts, unopt, unoptsO, unoptsB, lazyO, guardOf, gbool, eMov, eNot, eNeg, eConv, eExt, eLenArr, eLen, eLenStr, eEqb, eEqv, allEq, eNil, negIf, eBool2, eCmp, eAri, ari, eBit, eDiv, eSh, eMinMax, foldMin, foldMax, kEq, pure1, cmpB, VO.quiet, resVals, resVal, tupled, popRet, popTo, cond, Option.bind, Option.map, eNew, eBox, asCells, lenH, snocH, eFieldAddr, eField, eLoad, cellsAt, getH, setH, dropL, takeL, mkAgg, lenL, lenS, shift, shiftL, shiftH, viewN, viewL, view, andT, junks, List.append_nil, Nat.beq, eIdxAddr, eIdxArr, idxN_0, idxN_1, idxN_2, idxN_3, eIndex, eStore, storeAt, spliceL, ones, one, eSlice, eSliceArr, bounds, subLo_z, addLo_z, subLo_one, addLo_one, eMake, eAppend, readS, repL, buildCells, chunk, purgeL, purgeLL, purgeH, purge, refs, refsL, List.cons_append, List.nil_append, wrOps, wrAl, wrDops, wrC, junkAt, putAll, putHs, headOf, headK, keepG, List.append_eq, headX, chkP, apartP, apartB, blk, strip, runAl, AL.ho, yld, putPs, lenN, findR, notRound, jumpK, jumpPT, jcode, List.map_cons, List.map_nil, ite_self, reduceIte]
      simp only [leS_mk, leL_cons, leL_nil, le_junk, le_int, le_bool, le_nil, leLL_nil, leLL_cons, leH_cons, leH_nil, leH1_box, leH1_own, leH1_gone, le_vs, le_agg, le_tup, le_ptr, le_own, le_xp, le_fn, le_opt, le_val, le_elem, le_nil_own, le_nil_vs, leH_ghost, leL_chunk, leXL_id, bnd_int, bnd_bool, bnd_val, bnd_nil, bnd_junk, bnd_vs, bnd_xp, bnd_agg, bnd_tup, bnd_ptr, bnd_own, bnd_elem, bnd_fn, bnd_iface, bnd_opt, bndL_nil, bndL_cons, lenH_cons, lenH_nil, imp_self, implies_true, true_and, and_true]
      simp [cy_0]
    · rintro i hi
      dsimp only [R1_ct70, R1_ct71, limbC, trimC, natS, Int.toNat_natCast, r_end, r_end1, r_nil, r_op, r_opg, r_runOp, r_op0, r_yld0, r_yld1, r_y, r_rbeg, r_rend, r_rend1, r_rfrm, r_rfrm1, r_range, r_rangeK, r_rangeE, r_draw, r_dnil, r_dop, r_dopg, r_dplq, r_dplh, r_dq, r_dq0, r_dcl1, r_dcl0, r_dct1, r_dct0, r_dgd, r_dgq1, r_dgq0, r_dctG, r_op1, r_eff, r_eff0, r_call, r_call0, r_inl, r_g, r_gq, r_gc, r_effg, r_effg0, r_callg, r_callg0, r_fin, r_pre, r_imp, r_all, r_ex, r_fing, r_preg, r_exg, r_inBlock, r_inLoop, r_frame, r_frame1, r_skip, r_stuck, r_region, r_seq, r_cond, r_cond1, r_block, r_exit, r_exit1, r_exit2, r_ret, r_loop, s_args0, s_args1, s_xt, s_xc, noOwn, noOwnL, padL, blankL, callee, calleeM, callArgs, eff, ctOf, ctM, ctI, getL, setL, S.put, S.upd, unopts, unopt, unoptsO, unoptsB, lazyO, guardOf, gbool, eMov, eNot, eNeg, eConv, eExt, eLenArr, eLen, eLenStr, eEqb, eEqv, allEq, eNil, negIf, eBool2, eCmp, eAri, ari, eBit, eDiv, eSh, eMinMax, foldMin, foldMax, kEq, pure1, cmpB, VO.quiet, resVals, resVal, tupled, popRet, popTo, cond, Option.bind, Option.map, eNew, eBox, asCells, lenH, snocH, eFieldAddr, eField, eLoad, cellsAt, getH, setH, dropL, takeL, mkAgg, lenL, lenS, shift, shiftL, shiftH, viewN, viewL, view, andT, junks, List.append_nil, Nat.beq, eIdxAddr, eIdxArr, idxN_0, idxN_1, idxN_2, idxN_3, eIndex, eStore, storeAt, spliceL, ones, one, eSlice, eSliceArr, bounds, subLo_z, addLo_z, subLo_one, addLo_one, eMake, eAppend, readS, repL, buildCells, chunk, purgeL, purgeLL, purgeH, purge, refs, refsL, List.cons_append, List.nil_append, wrOps, wrAl, wrDops, wrC, junkAt, putAll, putHs, headOf, headK, keepG, List.append_eq, headX, chkP, apartP, apartB, blk, strip, runAl, AL.ho, yld, putPs, lenN, findR, notRound, jumpK, jumpPT, jcode, List.map_cons, List.map_nil, ite_self, reduceIte]
      simp only [true_and, and_true, imp_self, implies_true, decide_eq_true_eq, decide_eq_false_iff_not, Nat.reduceAdd, Nat.reduceLeDiff, Bool.not_not, reduceCtorEq, false_imp_iff, Bool.not_eq_true', Bool.not_eq_false', Bool.false_eq_true, and_self, forall_const, ne_eq, not_false_eq_true, Nat.reduceEqDiff]
      have emax : IntKind.i64.wrap (max (n : Int) (m : Int) + 1) = ((max n m + 1 : Nat) : Int) := by rw [IntWalk.i64_in _ (by omega)]; omega
      rw [emax]
      refine ⟨fun hlt => ⟨a, ⟨padP_self hn ha, by omega⟩, b, ⟨padP_self hm hb, by omega⟩, by decide, by decide, ?_⟩, fun hge => ⟨a + b, ?_, ?_⟩⟩
      · have hd1 := dig_lt a i
        have hd2 := dig_lt b i
        have hc := cy_le a b i
        have e1 := add_dig a b i
        have e2 := add_cy a b i
        rw [u_add (by omega), u_add (by omega)]
        dsimp only [r_end, r_end1, r_nil, r_op, r_opg, r_runOp, r_op0, r_yld0, r_yld1, r_y, r_rbeg, r_rend, r_rend1, r_rfrm, r_rfrm1, r_range, r_rangeK, r_rangeE, r_draw, r_dnil, r_dop, r_dopg, r_dplq, r_dplh, r_dq, r_dq0, r_dcl1, r_dcl0, r_dct1, r_dct0, r_dgd, r_dgq1, r_dgq0, r_dctG, r_op1, r_eff, r_eff0, r_call, r_call0, r_inl, r_g, r_gq, r_gc, r_effg, r_effg0, r_callg, r_callg0, r_fin, r_pre, r_imp, r_all, r_ex, r_fing, r_preg, r_exg, r_inBlock, r_inLoop, r_frame, r_frame1, r_skip, r_stuck, r_region, r_seq, r_cond, r_cond1, r_block, r_exit, r_exit1, r_exit2, r_ret, r_loop, s_args0, s_args1, s_xt, s_xc, noOwn, noOwnL, padL, blankL, callee, calleeM, callArgs, eff, ctOf, ctM, ctI, getL, setL, S.put, S.upd, unopts, unopt, unoptsO, unoptsB, lazyO, guardOf, gbool, eMov, eNot, eNeg, eConv, eExt, eLenArr, eLen, eLenStr, eEqb, eEqv, allEq, eNil, negIf, eBool2, eCmp, eAri, ari, eBit, eDiv, eSh, eMinMax, foldMin, foldMax, kEq, pure1, cmpB, VO.quiet, resVals, resVal, tupled, popRet, popTo, cond, Option.bind, Option.map, eNew, eBox, asCells, lenH, snocH, eFieldAddr, eField, eLoad, cellsAt, getH, setH, dropL, takeL, mkAgg, lenL, lenS, shift, shiftL, shiftH, viewN, viewL, view, andT, junks, List.append_nil, Nat.beq, eIdxAddr, eIdxArr, idxN_0, idxN_1, idxN_2, idxN_3, eIndex, eStore, storeAt, spliceL, ones, one, eSlice, eSliceArr, bounds, subLo_z, addLo_z, subLo_one, addLo_one, eMake, eAppend, readS, repL, buildCells, chunk, purgeL, purgeLL, purgeH, purge, refs, refsL, List.cons_append, List.nil_append, wrOps, wrAl, wrDops, wrC, junkAt, putAll, putHs, headOf, headK, keepG, List.append_eq, headX, chkP, apartP, apartB, blk, strip, runAl, AL.ho, yld, putPs, lenN, findR, notRound, jumpK, jumpPT, jcode, List.map_cons, List.map_nil, ite_self, reduceIte]
        simp only [true_and, and_true, imp_self, implies_true, decide_eq_true_eq, decide_eq_false_iff_not, Nat.reduceAdd, Nat.reduceLeDiff, Bool.not_not, reduceCtorEq, false_imp_iff, Bool.not_eq_true', Bool.not_eq_false', Bool.false_eq_true, and_self, forall_const, ne_eq, not_false_eq_true, Nat.reduceEqDiff]
        refine ⟨⟨by unfold capOk; omega, fun j hj => ?_⟩, by decide, i + 1, by omega, by omega, ?_⟩
        · match j, hj with
          | 0, _ => exact ⟨rfl, trivial, trivial⟩
        · rw [u3_rem, u_quo (by omega), e1, e2, IntWalk.i64_in ((i : Int) + 1) (by omega)]
          simp only [leS_mk, leL_cons, leL_nil, le_junk, le_int, le_bool, le_nil, leLL_nil, leLL_cons, leH_cons, leH_nil, leH1_box, leH1_own, leH1_gone, le_vs, le_agg, le_tup, le_ptr, le_own, le_xp, le_fn, le_opt, le_val, le_elem, le_nil_own, le_nil_vs, leH_ghost, leL_chunk, leXL_id, bnd_int, bnd_bool, bnd_val, bnd_nil, bnd_junk, bnd_vs, bnd_xp, bnd_agg, bnd_tup, bnd_ptr, bnd_own, bnd_elem, bnd_fn, bnd_iface, bnd_opt, bndL_nil, bndL_cons, lenH_cons, lenH_nil, imp_self, implies_true, true_and, and_true]
          refine ⟨by simp, by simp, fun j hj => ?_⟩
          rcases Nat.lt_or_ge j i with h' | h'
          · rw [if_pos h']; simp only [leL, le, and_self]
          · obtain rfl : j = i := by omega
            rw [if_neg (Nat.lt_irrefl _), Nat.sub_self]
            simp only [purgeL, takeL, dropL, leL, Nat.zero_mul, purge, refs, cond, le, and_self]
      · obtain rfl : i = max n m + 1 := by omega
        refine padP_self (by omega) ?_
        have h1 : a < 4294967296 ^ max n m := Nat.lt_of_lt_of_le ha (Nat.pow_le_pow_right (by decide) (by omega))
        have h2 : b < 4294967296 ^ max n m := Nat.lt_of_lt_of_le hb (Nat.pow_le_pow_right (by decide) (by omega))
        rw [pw_succ]; omega
      · exact ans_natS (t := true) h
  · exact h.1.elim
end Go.Proofs.Ytojaibhjfeojjaa

/- Whole numbers, walked: Times alone. -/
set_option linter.all false
namespace Go.Proofs.Ytojaibhjfeojjaa
open Go Go.Vx
set_option maxRecDepth 100000
set_option maxHeartbeats 4000000

def v73 : VF := { ntmps := 59, res := [.tmp 4], body :=
 (.seq (.region [⟨(some 4), none, .mov, [.cn .nil]⟩])
 (.seq (.region [⟨(some 10), none, .mov, [.tm 0]⟩,
  ⟨(some 11), none, .len, [.tm 10]⟩,
  ⟨(some 12), none, .mov, [.tm 1]⟩,
  ⟨(some 13), none, .len, [.tm 12]⟩,
  ⟨(some 14), none, (.ari .add), [.tm 11, .tm 13]⟩,
  ⟨(some 15), none, (.ari .add), [.tm 14, .cn (.int .i64 1)]⟩,
  ⟨(some 16), none, (.make 1 4 [(.int .u32 0)]), [.tm 15, .tm 15]⟩,
  ⟨(some 5), none, .mov, [.tm 16]⟩])
 (.seq (.seq (.region [⟨(some 6), none, .mov, [.cn (.int .i64 0)]⟩])
 (.block 0 (.loop (.seq (.seq (.region [⟨(some 17), none, .mov, [.tm 6]⟩,
  ⟨(some 18), none, .mov, [.tm 0]⟩,
  ⟨(some 19), none, .len, [.tm 18]⟩,
  ⟨(some 20), none, (.cmp .lss), [.tm 17, .tm 19]⟩])
 (.cond (.tm 20) .skip
  (.exit 0)))
 (.seq (.block 1 (.seq (.region [⟨(some 7), none, .mov, [.cn (.int .u64 0)]⟩])
 (.seq (.region [⟨(some 8), none, .mov, [.cn (.int .i64 0)]⟩])
 (.block 2 (.loop (.seq (.seq (.region [⟨(some 23), none, .mov, [.tm 8]⟩,
  ⟨(some 24), none, .mov, [.tm 1]⟩,
  ⟨(some 25), none, .len, [.tm 24]⟩,
  ⟨(some 26), none, (.ari .add), [.tm 25, .cn (.int .i64 1)]⟩,
  ⟨(some 27), none, (.cmp .lss), [.tm 23, .tm 26]⟩])
 (.cond (.tm 27) .skip
  (.exit 2)))
 (.seq (.block 3 (.seq (.draw [] [⟨⟨(some 30), none, .mov, [.tm 5]⟩, []⟩,
  ⟨⟨(some 31), none, .mov, [.tm 6]⟩, []⟩,
  ⟨⟨(some 32), none, .mov, [.tm 8]⟩, []⟩,
  ⟨⟨(some 33), none, (.ari .add), [.tm 31, .tm 32]⟩, []⟩,
  ⟨⟨(some 34), none, (.idxAddr 1), [.tm 30, .tm 33]⟩, []⟩,
  ⟨⟨(some 35), none, (.load false 1), [.tm 34]⟩, []⟩,
  ⟨⟨(some 36), none, (.conv .u64), [.tm 35]⟩, []⟩,
  ⟨⟨(some 37), none, .mov, [.tm 0]⟩, []⟩,
  ⟨⟨(some 38), none, .mov, [.tm 6]⟩, []⟩,
  ⟨⟨(some 40), none, .mov, [.tm 1]⟩, []⟩,
  ⟨⟨(some 41), none, .mov, [.tm 8]⟩, []⟩,
  ⟨⟨(some 45), none, .mov, [.tm 7]⟩, []⟩,
  ⟨⟨(some 39), none, (.call 70), [.tm 37, .tm 38]⟩, []⟩,
  ⟨⟨(some 42), none, (.call 70), [.tm 40, .tm 41]⟩, []⟩,
  ⟨⟨(some 43), none, (.ari .mul), [.tm 39, .tm 42]⟩, []⟩,
  ⟨⟨(some 44), none, (.ari .add), [.tm 36, .tm 43]⟩, []⟩,
  ⟨⟨(some 46), none, (.ari .add), [.tm 44, .tm 45]⟩, []⟩,
  ⟨⟨(some 9), none, .mov, [.tm 46]⟩, []⟩])
 (.seq (.region [⟨(some 47), none, .mov, [.tm 5]⟩,
  ⟨(some 48), none, .mov, [.tm 6]⟩,
  ⟨(some 49), none, .mov, [.tm 8]⟩,
  ⟨(some 50), none, (.ari .add), [.tm 48, .tm 49]⟩,
  ⟨(some 51), none, .mov, [.tm 9]⟩,
  ⟨(some 52), none, .rem, [.tm 51, .cn (.int .u64 4294967296)]⟩,
  ⟨(some 53), none, (.conv .u32), [.tm 52]⟩,
  ⟨(some 54), none, (.idxAddr 1), [.tm 47, .tm 50]⟩,
  ⟨none, none, (.store 1), [.tm 54, .tm 53]⟩])
 (.region [⟨(some 55), none, .mov, [.tm 9]⟩,
  ⟨(some 56), none, .quo, [.tm 55, .cn (.int .u64 4294967296)]⟩,
  ⟨(some 7), none, .mov, [.tm 56]⟩]))))
 (.region [⟨(some 28), none, .mov, [.tm 8]⟩,
  ⟨(some 29), none, (.ari .add), [.tm 28, .cn (.int .i64 1)]⟩,
  ⟨(some 8), none, .mov, [.tm 29]⟩]))))))))
 (.region [⟨(some 21), none, .mov, [.tm 6]⟩,
  ⟨(some 22), none, (.ari .add), [.tm 21, .cn (.int .i64 1)]⟩,
  ⟨(some 6), none, .mov, [.tm 22]⟩]))))))
 (.seq (.region [⟨(some 57), none, .mov, [.tm 5]⟩,
  ⟨(some 58), none, (.call 71), [.tm 57]⟩,
  ⟨(some 4), none, .mov, [.tm 58]⟩])
 .ret)))) }
theorem v73_is : vfunc Try.prog Try.f73 = some v73 := by kernel_rfl


def timesC : Ctr := { alias := false, of := fun l => match l with
  | [.vs _ _ n sz get, .vs _ _ m sz' get'] => .ex Nat fun a => .ex Nat fun b => .pre (padP a n sz get ∧ padP b m sz' get' ∧ n + m ≤ 99999) (.fin (natS false (a * b)) [])
  | _ => noC }

theorem times_ok : timesC.ok Try.prog 73 := by
  refine contract Try.func73 v73_is R1_ok 300 timesC fun args k h => ?_
  simp only [timesC] at h
  split at h
  · rename_i t1 z1 n sz get t2 z2 m sz' get'
    obtain ⟨a, b, ⟨⟨rfl, hn, ha, hg⟩, ⟨rfl, hm, hb, hg'⟩, hnm⟩, h⟩ := h
    refine ⟨[.vs t1 z1 n 1 (fun k => [.int .u32 (dig a k)]), .vs t2 z2 m 1 (fun k => [.int .u32 (dig b k)])], ⟨by simpa [le] using hg, by simpa [le] using hg', trivial⟩, ?_⟩
    dsimp only [v73, r_end, r_end1, r_nil, r_op, r_opg, r_runOp, r_op0, r_yld0, r_yld1, r_y, r_rbeg, r_rend, r_rend1, r_rfrm, r_rfrm1, r_range, r_rangeK, r_rangeE, r_draw, r_dnil, r_dop, r_dopg, r_dplq, r_dplh, r_dq, r_dq0, r_dcl1, r_dcl0, r_dct1, r_dct0, r_dgd, r_dgq1, r_dgq0, r_dctG, r_op1, r_eff, r_eff0, r_call, r_call0, r_inl, r_g, r_gq, r_gc, r_effg, r_effg0, r_callg, r_callg0, r_fin, r_pre, r_imp, r_all, r_ex, r_fing, r_preg, r_exg, r_inBlock, r_inLoop, r_frame, r_frame1, r_skip, r_stuck, r_region, r_seq, r_cond, r_cond1, r_block, r_exit, r_exit1, r_exit2, r_ret, r_loop, s_args0, s_args1, s_xt, s_xc, noOwn, noOwnL, padL, blankL, callee, calleeM, callArgs, eff, ctOf, ctM, ctI, getL, setL, S.put, S.upd, unopts, unopt, unoptsO, unoptsB, lazyO, guardOf, gbool, eMov, eNot, eNeg, eConv, eExt, eLenArr, eLen, eLenStr, eEqb, eEqv, allEq, eNil, negIf, eBool2, eCmp, eAri, ari, eBit, eDiv, eSh, eMinMax, foldMin, foldMax, kEq, pure1, cmpB, VO.quiet, resVals, resVal, tupled, popRet, popTo, cond, Option.bind, Option.map, eNew, eBox, asCells, lenH, snocH, eFieldAddr, eField, eLoad, cellsAt, getH, setH, dropL, takeL, mkAgg, lenL, lenS, shift, shiftL, shiftH, viewN, viewL, view, andT, junks, List.append_nil, Nat.beq, eIdxAddr, eIdxArr, idxN_0, idxN_1, idxN_2, idxN_3, eIndex, eStore, storeAt, spliceL, ones, one, eSlice, eSliceArr, bounds, subLo_z, addLo_z, subLo_one, addLo_one, eMake, eAppend, readS, repL, buildCells, chunk, purgeL, purgeLL, purgeH, purge, refs, refsL, List.cons_append, List.nil_append, wrOps, wrAl, wrDops, wrC, junkAt, putAll, putHs, headOf, headK, keepG, List.append_eq, headX, chkP, apartP, apartB, blk, strip, runAl, AL.ho, yld, putPs, lenN, findR, notRound, jumpK, jumpPT, jcode, List.map_cons, List.map_nil, ite_self, reduceIte]
    simp only [true_and, and_true, imp_self, implies_true, decide_eq_true_eq, decide_eq_false_iff_not, Nat.reduceAdd, Nat.reduceLeDiff, Bool.not_not, reduceCtorEq, false_imp_iff, Bool.not_eq_true', Bool.not_eq_false', Bool.false_eq_true, and_self, forall_const, ne_eq, not_false_eq_true, Nat.reduceEqDiff]
    have en : IntKind.i64.wrap (IntKind.i64.wrap ((n : Int) + (m : Int)) + 1) = ((n + m + 1 : Nat) : Int) := by
      rw [IntWalk.i64_in ((n : Int) + m) (by omega), IntWalk.i64_in _ (by omega)]; omega
    rw [en]
    simp only [Int.toNat_natCast]
    refine ⟨⟨by decide, by omega, by unfold capOk; omega⟩, ?_⟩
    refine Loop.keep [0, 0, 3, 0] Nat (fun i => [(6, .int .i64 i)]) (fun i => [(0, .own false 1 (n + m + 1) (fun k => [.int .u32 (dig ((a % 4294967296 ^ i) * b) k)]))]) [] (fun i => i ≤ n) (fun i => n - i) ?_ ?_
    · refine ⟨0, by omega, ?_⟩
      dsimp only [r_end, r_end1, r_nil, r_op, r_opg, r_runOp, r_op0, r_yld0, r_yld1, r_y, r_rbeg, r_rend, r_rend1, r_rfrm, r_rfrm1, r_range, r_rangeK, r_rangeE, r_draw, r_dnil, r_dop, r_dopg, r_dplq, r_dplh, r_dq, r_dq0, r_dcl1, r_dcl0, r_dct1, r_dct0, r_dgd, r_dgq1, r_dgq0, r_dctG, r_op1, r_eff, r_eff0, r_call, r_call0, r_inl, r_g, r_gq, r_gc, r_effg, r_effg0, r_callg, r_callg0, r_fin, r_pre, r_imp, r_all, r_ex, r_fing, r_preg, r_exg, r_inBlock, r_inLoop, r_frame, r_frame1, r_skip, r_stuck, r_region, r_seq, r_cond, r_cond1, r_block, r_exit, r_exit1, r_exit2, r_ret, r_loop, s_args0, s_args1, s_xt, s_xc, noOwn, noOwnL, padL, blankL, callee, calleeM, callArgs, eff, ctOf, ctM, ctI, getL, setL, S.put, S.upd, unopts, unopt, unoptsO, unoptsB, lazyO, guardOf, gbool, eMov, eNot, eNeg, eConv, eExt, eLenArr, eLen, eLenStr, eEqb, eEqv, allEq, eNil, negIf, eBool2, eCmp, eAri, ari, eBit, eDiv, eSh, eMinMax, foldMin, foldMax, kEq, pure1, cmpB, VO.quiet, resVals, resVal, tupled, popRet, popTo, cond, Option.bind, Option.map, eNew, eBox, asCells, lenH, snocH, eFieldAddr, eField, eLoad, cellsAt, getH, setH, dropL, takeL, mkAgg, lenL, lenS, shift, shiftL, shiftH, viewN, viewL, view, andT, junks, List.append_nil, Nat.beq, eIdxAddr, eIdxArr, idxN_0, idxN_1, idxN_2, idxN_3, eIndex, eStore, storeAt, spliceL, ones, one, eSlice, eSliceArr, bounds, subLo_z, addLo_z, subLo_one, addLo_one, eMake, eAppend, readS, repL, buildCells, chunk, purgeL, purgeLL, purgeH, purge, refs, refsL, List.cons_append, List.nil_append, wrOps, wrAl, wrDops, wrC, junkAt, putAll, putHs, headOf, headK, keepG, List.append_eq, headX, chkP, apartP, apartB, blk, strip, runAl, AL.ho, yld, putPs, lenN, findR, notRound, jumpK, jumpPT, jcode, List.map_cons, List.map_nil, ite_self, reduceIte]
      simp only [leS_mk, leL_cons, leL_nil, le_junk, le_int, le_bool, le_nil, leLL_nil, leLL_cons, leH_cons, leH_nil, leH1_box, leH1_own, leH1_gone, le_vs, le_agg, le_tup, le_ptr, le_own, le_xp, le_fn, le_opt, le_val, le_elem, le_nil_own, le_nil_vs, leH_ghost, leL_chunk, leXL_id, bnd_int, bnd_bool, bnd_val, bnd_nil, bnd_junk, bnd_vs, bnd_xp, bnd_agg, bnd_tup, bnd_ptr, bnd_own, bnd_elem, bnd_fn, bnd_iface, bnd_opt, bndL_nil, bndL_cons, lenH_cons, lenH_nil, imp_self, implies_true, true_and, and_true]
      simp [Nat.mod_one, dig_zero, leL, le]
    · rintro i hi
      dsimp only [R1_ct70, R1_ct71, limbC, trimC, natS, Int.toNat_natCast, r_end, r_end1, r_nil, r_op, r_opg, r_runOp, r_op0, r_yld0, r_yld1, r_y, r_rbeg, r_rend, r_rend1, r_rfrm, r_rfrm1, r_range, r_rangeK, r_rangeE, r_draw, r_dnil, r_dop, r_dopg, r_dplq, r_dplh, r_dq, r_dq0, r_dcl1, r_dcl0, r_dct1, r_dct0, r_dgd, r_dgq1, r_dgq0, r_dctG, r_op1, r_eff, r_eff0, r_call, r_call0, r_inl, r_g, r_gq, r_gc, r_effg, r_effg0, r_callg, r_callg0, r_fin, r_pre, r_imp, r_all, r_ex, r_fing, r_preg, r_exg, r_inBlock, r_inLoop, r_frame, r_frame1, r_skip, r_stuck, r_region, r_seq, r_cond, r_cond1, r_block, r_exit, r_exit1, r_exit2, r_ret, r_loop, s_args0, s_args1, s_xt, s_xc, noOwn, noOwnL, padL, blankL, callee, calleeM, callArgs, eff, ctOf, ctM, ctI, getL, setL, S.put, S.upd, unopts, unopt, unoptsO, unoptsB, lazyO, guardOf, gbool, eMov, eNot, eNeg, eConv, eExt, eLenArr, eLen, eLenStr, eEqb, eEqv, allEq, eNil, negIf, eBool2, eCmp, eAri, ari, eBit, eDiv, eSh, eMinMax, foldMin, foldMax, kEq, pure1, cmpB, VO.quiet, resVals, resVal, tupled, popRet, popTo, cond, Option.bind, Option.map, eNew, eBox, asCells, lenH, snocH, eFieldAddr, eField, eLoad, cellsAt, getH, setH, dropL, takeL, mkAgg, lenL, lenS, shift, shiftL, shiftH, viewN, viewL, view, andT, junks, List.append_nil, Nat.beq, eIdxAddr, eIdxArr, idxN_0, idxN_1, idxN_2, idxN_3, eIndex, eStore, storeAt, spliceL, ones, one, eSlice, eSliceArr, bounds, subLo_z, addLo_z, subLo_one, addLo_one, eMake, eAppend, readS, repL, buildCells, chunk, purgeL, purgeLL, purgeH, purge, refs, refsL, List.cons_append, List.nil_append, wrOps, wrAl, wrDops, wrC, junkAt, putAll, putHs, headOf, headK, keepG, List.append_eq, headX, chkP, apartP, apartB, blk, strip, runAl, AL.ho, yld, putPs, lenN, findR, notRound, jumpK, jumpPT, jcode, List.map_cons, List.map_nil, ite_self, reduceIte]
      simp only [true_and, and_true, imp_self, implies_true, decide_eq_true_eq, decide_eq_false_iff_not, Nat.reduceAdd, Nat.reduceLeDiff, Bool.not_not, reduceCtorEq, false_imp_iff, Bool.not_eq_true', Bool.not_eq_false', Bool.false_eq_true, and_self, forall_const, ne_eq, not_false_eq_true, Nat.reduceEqDiff]
      refine ⟨fun hlt => ?_, fun hge => ?_⟩
      · refine Loop.keep [0, 0, 3, 0, 0, 0] (Nat × Nat × Nat) (fun x => [(7, .int .u64 x.2.2), (8, .int .i64 x.1)]) (fun x => [(0, .own false 1 (n + m + 1) (fun k => [.int .u32 (dig x.2.1 k)]))]) [] (fun x => x.1 ≤ m + 1 ∧ x.2.2 < 4294967296 ∧ x.2.1 < 4294967296 ^ (n + m + 1) ∧ x.2.1 + x.2.2 * 4294967296 ^ (i + x.1) = (a % 4294967296 ^ i) * b + dig a i * (b % 4294967296 ^ x.1) * 4294967296 ^ i) (fun x => m + 1 - x.1) ?_ ?_
        · refine ⟨(0, (a % 4294967296 ^ i) * b, 0), ⟨by simp only; omega, by simp only; omega, ?_, by simp [Nat.mod_one]⟩, ?_⟩
          · exact mul_lt hi ha hb
          · dsimp only [r_end, r_end1, r_nil, r_op, r_opg, r_runOp, r_op0, r_yld0, r_yld1, r_y, r_rbeg, r_rend, r_rend1, r_rfrm, r_rfrm1, r_range, r_rangeK, r_rangeE, r_draw, r_dnil, r_dop, r_dopg, r_dplq, r_dplh, r_dq, r_dq0, r_dcl1, r_dcl0, r_dct1, r_dct0, r_dgd, r_dgq1, r_dgq0, r_dctG, r_op1, r_eff, r_eff0, r_call, r_call0, r_inl, r_g, r_gq, r_gc, r_effg, r_effg0, r_callg, r_callg0, r_fin, r_pre, r_imp, r_all, r_ex, r_fing, r_preg, r_exg, r_inBlock, r_inLoop, r_frame, r_frame1, r_skip, r_stuck, r_region, r_seq, r_cond, r_cond1, r_block, r_exit, r_exit1, r_exit2, r_ret, r_loop, s_args0, s_args1, s_xt, s_xc, noOwn, noOwnL, padL, blankL, callee, calleeM, callArgs, eff, ctOf, ctM, ctI, getL, setL, S.put, S.upd, unopts, unopt, unoptsO, unoptsB, lazyO, guardOf, gbool, eMov, eNot, eNeg, eConv, eExt, eLenArr, eLen, eLenStr, eEqb, eEqv, allEq, eNil, negIf, eBool2, eCmp, eAri, ari, eBit, eDiv, eSh, eMinMax, foldMin, foldMax, kEq, pure1, cmpB, VO.quiet, resVals, resVal, tupled, popRet, popTo, cond, Option.bind, Option.map, eNew, eBox, asCells, lenH, snocH, eFieldAddr, eField, eLoad, cellsAt, getH, setH, dropL, takeL, mkAgg, lenL, lenS, shift, shiftL, shiftH, viewN, viewL, view, andT, junks, List.append_nil, Nat.beq, eIdxAddr, eIdxArr, idxN_0, idxN_1, idxN_2, idxN_3, eIndex, eStore, storeAt, spliceL, ones, one, eSlice, eSliceArr, bounds, subLo_z, addLo_z, subLo_one, addLo_one, eMake, eAppend, readS, repL, buildCells, chunk, purgeL, purgeLL, purgeH, purge, refs, refsL, List.cons_append, List.nil_append, wrOps, wrAl, wrDops, wrC, junkAt, putAll, putHs, headOf, headK, keepG, List.append_eq, headX, chkP, apartP, apartB, blk, strip, runAl, AL.ho, yld, putPs, lenN, findR, notRound, jumpK, jumpPT, jcode, List.map_cons, List.map_nil, ite_self, reduceIte]
            simp only [leS_mk, leL_cons, leL_nil, le_junk, le_int, le_bool, le_nil, leLL_nil, leLL_cons, leH_cons, leH_nil, leH1_box, leH1_own, leH1_gone, le_vs, le_agg, le_tup, le_ptr, le_own, le_xp, le_fn, le_opt, le_val, le_elem, le_nil_own, le_nil_vs, leH_ghost, leL_chunk, leXL_id, bnd_int, bnd_bool, bnd_val, bnd_nil, bnd_junk, bnd_vs, bnd_xp, bnd_agg, bnd_tup, bnd_ptr, bnd_own, bnd_elem, bnd_fn, bnd_iface, bnd_opt, bndL_nil, bndL_cons, lenH_cons, lenH_nil, imp_self, implies_true, true_and, and_true]
            simp [leL, le]
        · rintro ⟨t, V, c⟩ ⟨ht, hc, hV, he⟩
          dsimp only at ht hc hV he
          dsimp only [R1_ct70, R1_ct71, limbC, trimC, natS, Int.toNat_natCast, r_end, r_end1, r_nil, r_op, r_opg, r_runOp, r_op0, r_yld0, r_yld1, r_y, r_rbeg, r_rend, r_rend1, r_rfrm, r_rfrm1, r_range, r_rangeK, r_rangeE, r_draw, r_dnil, r_dop, r_dopg, r_dplq, r_dplh, r_dq, r_dq0, r_dcl1, r_dcl0, r_dct1, r_dct0, r_dgd, r_dgq1, r_dgq0, r_dctG, r_op1, r_eff, r_eff0, r_call, r_call0, r_inl, r_g, r_gq, r_gc, r_effg, r_effg0, r_callg, r_callg0, r_fin, r_pre, r_imp, r_all, r_ex, r_fing, r_preg, r_exg, r_inBlock, r_inLoop, r_frame, r_frame1, r_skip, r_stuck, r_region, r_seq, r_cond, r_cond1, r_block, r_exit, r_exit1, r_exit2, r_ret, r_loop, s_args0, s_args1, s_xt, s_xc, noOwn, noOwnL, padL, blankL, callee, calleeM, callArgs, eff, ctOf, ctM, ctI, getL, setL, S.put, S.upd, unopts, unopt, unoptsO, unoptsB, lazyO, guardOf, gbool, eMov, eNot, eNeg, eConv, eExt, eLenArr, eLen, eLenStr, eEqb, eEqv, allEq, eNil, negIf, eBool2, eCmp, eAri, ari, eBit, eDiv, eSh, eMinMax, foldMin, foldMax, kEq, pure1, cmpB, VO.quiet, resVals, resVal, tupled, popRet, popTo, cond, Option.bind, Option.map, eNew, eBox, asCells, lenH, snocH, eFieldAddr, eField, eLoad, cellsAt, getH, setH, dropL, takeL, mkAgg, lenL, lenS, shift, shiftL, shiftH, viewN, viewL, view, andT, junks, List.append_nil, Nat.beq, eIdxAddr, eIdxArr, idxN_0, idxN_1, idxN_2, idxN_3, eIndex, eStore, storeAt, spliceL, ones, one, eSlice, eSliceArr, bounds, subLo_z, addLo_z, subLo_one, addLo_one, eMake, eAppend, readS, repL, buildCells, chunk, purgeL, purgeLL, purgeH, purge, refs, refsL, List.cons_append, List.nil_append, wrOps, wrAl, wrDops, wrC, junkAt, putAll, putHs, headOf, headK, keepG, List.append_eq, headX, chkP, apartP, apartB, blk, strip, runAl, AL.ho, yld, putPs, lenN, findR, notRound, jumpK, jumpPT, jcode, List.map_cons, List.map_nil, ite_self, reduceIte]
          simp only [true_and, and_true, imp_self, implies_true, decide_eq_true_eq, decide_eq_false_iff_not, Nat.reduceAdd, Nat.reduceLeDiff, Bool.not_not, reduceCtorEq, false_imp_iff, Bool.not_eq_true', Bool.not_eq_false', Bool.false_eq_true, and_self, forall_const, ne_eq, not_false_eq_true, Nat.reduceEqDiff]
          rw [IntWalk.i64_in ((m : Int) + 1) (by omega)]
          refine ⟨fun hlt2 => ?_, fun hge2 => ?_⟩
          · have w1 : IntKind.i64.wrap ((i : Int) + (t : Int)) = ((i + t : Nat) : Int) := by rw [IntWalk.i64_in _ (by omega)]; simp
            rw [w1]
            simp only [Int.toNat_natCast]
            have hd0 := dig_lt V (i + t)
            obtain ⟨hb1, hb2⟩ := mul_bound hd0 (dig_lt a i) (dig_lt b t) hc
            have hs := mul_step he
            refine ⟨⟨by omega, by omega⟩, by omega, a, ⟨padP_self hn ha, by omega⟩, b, ⟨padP_self hm hb, by omega⟩, by decide, ⟨by omega, by omega⟩, by omega, by decide,
              (t + 1, setD V (i + t) ((dig V (i + t) + dig a i * dig b t + c) % 4294967296), (dig V (i + t) + dig a i * dig b t + c) / 4294967296), ⟨by simp only; omega, hb2, setD_lt hV (Nat.mod_lt _ (by decide)) (by omega), hs⟩, by simp only; omega, ?_⟩
            rw [u_nat (by omega : dig V (i + t) < 18446744073709551616), u_mul (by omega), u_add (by omega), u_add (by omega), u3_rem, u_quo (by omega), IntWalk.i64_in ((t : Int) + 1) (by omega)]
            simp only [leS_mk, leL_cons, leL_nil, le_junk, le_int, le_bool, le_nil, leLL_nil, leLL_cons, leH_cons, leH_nil, leH1_box, leH1_own, leH1_gone, le_vs, le_agg, le_tup, le_ptr, le_own, le_xp, le_fn, le_opt, le_val, le_elem, le_nil_own, le_nil_vs, leH_ghost, leL_chunk, leXL_id, bnd_int, bnd_bool, bnd_val, bnd_nil, bnd_junk, bnd_vs, bnd_xp, bnd_agg, bnd_tup, bnd_ptr, bnd_own, bnd_elem, bnd_fn, bnd_iface, bnd_opt, bndL_nil, bndL_cons, lenH_cons, lenH_nil, imp_self, implies_true, true_and, and_true]
            refine ⟨by simp, fun j hj => ?_⟩
            rw [dig_setD (Nat.mod_lt _ (by decide))]
            split <;> simp only [leL, le, and_self]
          · obtain rfl : t = m + 1 := by omega
            have hbm : b % 4294967296 ^ (m + 1) = b := Nat.mod_eq_of_lt (Nat.lt_of_lt_of_le hb (Nat.pow_le_pow_right (by decide) (by omega)))
            rw [hbm] at he
            have hrow : (a % 4294967296 ^ (i + 1)) * b = (a % 4294967296 ^ i) * b + dig a i * b * 4294967296 ^ i := by
              rw [mod_pw, Nat.add_mul, Nat.mul_assoc, Nat.mul_comm (4294967296 ^ i)]
            rw [← hrow] at he
            have hlt3 : (a % 4294967296 ^ (i + 1)) * b < 4294967296 ^ (i + (m + 1)) := by
              have h1 := Nat.mod_lt a (pw_pos (i + 1))
              have h2 : (a % 4294967296 ^ (i + 1)) * b ≤ (a % 4294967296 ^ (i + 1)) * 4294967296 ^ m := Nat.mul_le_mul_left _ (Nat.le_of_lt hb)
              have h3 : (a % 4294967296 ^ (i + 1)) * 4294967296 ^ m < 4294967296 ^ (i + 1) * 4294967296 ^ m := Nat.mul_lt_mul_of_pos_right h1 (pw_pos m)
              rw [← Nat.pow_add, show i + 1 + m = i + (m + 1) by omega] at h3
              omega
            obtain rfl : c = 0 := by
              rcases Nat.eq_zero_or_pos c with h0 | h0
              · exact h0
              · have : 1 * 4294967296 ^ (i + (m + 1)) ≤ c * 4294967296 ^ (i + (m + 1)) := Nat.mul_le_mul_right _ h0
                omega
            rw [Nat.zero_mul, Nat.add_zero] at he
            refine ⟨i + 1, by omega, by omega, ?_⟩
            rw [he, IntWalk.i64_in ((i : Int) + 1) (by omega)]
            simp only [leS_mk, leL_cons, leL_nil, le_junk, le_int, le_bool, le_nil, leLL_nil, leLL_cons, leH_cons, leH_nil, leH1_box, leH1_own, leH1_gone, le_vs, le_agg, le_tup, le_ptr, le_own, le_xp, le_fn, le_opt, le_val, le_elem, le_nil_own, le_nil_vs, leH_ghost, leL_chunk, leXL_id, bnd_int, bnd_bool, bnd_val, bnd_nil, bnd_junk, bnd_vs, bnd_xp, bnd_agg, bnd_tup, bnd_ptr, bnd_own, bnd_elem, bnd_fn, bnd_iface, bnd_opt, bndL_nil, bndL_cons, lenH_cons, lenH_nil, imp_self, implies_true, true_and, and_true]
            simp [leL, le]
      · obtain rfl : i = n := by omega
        refine ⟨a * b, ?_, ans_natS (t := true) h⟩
        rw [Nat.mod_eq_of_lt ha]
        exact padP_self (by omega) (by have := mul_lt (Nat.le_refl i) ha hb; rwa [Nat.mod_eq_of_lt ha] at this)
  · exact h.1.elim
end Go.Proofs.Ytojaibhjfeojjaa

/- Layouts, walked: the reference's reach. -/
set_option linter.all false
namespace Go.Proofs.Ytojaibhjfeojjaa
open Go Go.Vx
set_option maxRecDepth 100000
set_option maxHeartbeats 4000000

def v81 : VF := { ntmps := 12, res := [.tmp 4], body :=
 (.seq (.region [⟨(some 4), none, .mov, [.cn .nil]⟩])
 (.seq (.region [⟨(some 5), none, .mov, [.tm 0]⟩,
  ⟨(some 6), none, (.conv .u64), [.tm 5]⟩,
  ⟨(some 7), none, (.call 72), [.tm 6]⟩,
  ⟨(some 8), none, .mov, [.tm 1]⟩,
  ⟨(some 9), none, (.conv .u64), [.tm 8]⟩,
  ⟨(some 10), none, (.call 72), [.tm 9]⟩,
  ⟨(some 11), none, (.call 73), [.tm 7, .tm 10]⟩,
  ⟨(some 4), none, .mov, [.tm 11]⟩])
 .ret)) }
theorem v81_is : vfunc Try.prog Try.f81 = some v81 := by kernel_rfl
def v79 : VF := { ntmps := 104, res := [.tmp 8], body :=
 (.seq (.region [⟨(some 4), none, .box, [.tm 0]⟩,
  ⟨(some 5), none, .box, [.tm 1]⟩,
  ⟨(some 6), none, .box, [.tm 2]⟩,
  ⟨(some 8), none, .mov, [.cn (.bool false)]⟩])
 (.seq (.draw [] [⟨⟨(some 16), none, (.fieldAddr 0), [.tm 5]⟩, []⟩,
  ⟨⟨(some 17), none, (.load false 1), [.tm 16]⟩, []⟩,
  ⟨⟨(some 18), none, (.fieldAddr 0), [.tm 4]⟩, []⟩,
  ⟨⟨(some 19), none, (.load false 1), [.tm 18]⟩, []⟩,
  ⟨⟨(some 20), none, (.ari .sub), [.tm 17, .tm 19]⟩, []⟩,
  ⟨⟨(some 21), none, (.fieldAddr 1), [.tm 5]⟩, []⟩,
  ⟨⟨(some 22), none, (.load false 1), [.tm 21]⟩, []⟩,
  ⟨⟨(some 23), none, (.fieldAddr 1), [.tm 4]⟩, []⟩,
  ⟨⟨(some 24), none, (.load false 1), [.tm 23]⟩, []⟩,
  ⟨⟨(some 25), none, (.ari .sub), [.tm 22, .tm 24]⟩, []⟩,
  ⟨⟨(some 9), none, .mov, [.tm 20]⟩, []⟩,
  ⟨⟨(some 10), none, .mov, [.tm 25]⟩, []⟩])
 (.seq (.draw [] [⟨⟨(some 26), none, (.fieldAddr 0), [.tm 6]⟩, []⟩,
  ⟨⟨(some 27), none, (.load false 1), [.tm 26]⟩, []⟩,
  ⟨⟨(some 28), none, (.fieldAddr 0), [.tm 4]⟩, []⟩,
  ⟨⟨(some 29), none, (.load false 1), [.tm 28]⟩, []⟩,
  ⟨⟨(some 30), none, (.ari .sub), [.tm 27, .tm 29]⟩, []⟩,
  ⟨⟨(some 31), none, (.fieldAddr 1), [.tm 6]⟩, []⟩,
  ⟨⟨(some 32), none, (.load false 1), [.tm 31]⟩, []⟩,
  ⟨⟨(some 33), none, (.fieldAddr 1), [.tm 4]⟩, []⟩,
  ⟨⟨(some 34), none, (.load false 1), [.tm 33]⟩, []⟩,
  ⟨⟨(some 35), none, (.ari .sub), [.tm 32, .tm 34]⟩, []⟩,
  ⟨⟨(some 11), none, .mov, [.tm 30]⟩, []⟩,
  ⟨⟨(some 12), none, .mov, [.tm 35]⟩, []⟩])
 (.seq (.region [⟨(some 36), none, .mov, [.tm 9]⟩,
  ⟨(some 37), none, .mov, [.tm 11]⟩,
  ⟨(some 38), none, (.ari .mul), [.tm 36, .tm 37]⟩,
  ⟨(some 39), none, .mov, [.tm 10]⟩,
  ⟨(some 40), none, .mov, [.tm 12]⟩,
  ⟨(some 41), none, (.ari .mul), [.tm 39, .tm 40]⟩,
  ⟨(some 42), none, (.ari .add), [.tm 38, .tm 41]⟩,
  ⟨(some 43), none, .mov, [.tm 9]⟩,
  ⟨(some 44), none, .mov, [.tm 9]⟩,
  ⟨(some 45), none, (.ari .mul), [.tm 43, .tm 44]⟩,
  ⟨(some 46), none, .mov, [.tm 10]⟩,
  ⟨(some 47), none, .mov, [.tm 10]⟩,
  ⟨(some 48), none, (.ari .mul), [.tm 46, .tm 47]⟩,
  ⟨(some 49), none, (.ari .add), [.tm 45, .tm 48]⟩,
  ⟨(some 13), none, .mov, [.tm 42]⟩,
  ⟨(some 14), none, .mov, [.tm 49]⟩])
 (.seq (.seq (.region [⟨(some 50), none, .mov, [.tm 13]⟩,
  ⟨(some 51), none, (.cmp .leq), [.tm 50, .cn (.int .i64 0)]⟩])
 (.cond (.tm 51) (.seq (.region [⟨(some 52), none, (.fieldAddr 0), [.tm 6]⟩,
  ⟨(some 53), none, (.load false 1), [.tm 52]⟩,
  ⟨(some 54), none, (.fieldAddr 1), [.tm 6]⟩,
  ⟨(some 55), none, (.load false 1), [.tm 54]⟩,
  ⟨(some 56), none, (.fieldAddr 0), [.tm 4]⟩,
  ⟨(some 57), none, (.load false 1), [.tm 56]⟩,
  ⟨(some 58), none, (.fieldAddr 1), [.tm 4]⟩,
  ⟨(some 59), none, (.load false 1), [.tm 58]⟩,
  ⟨(some 60), none, (.call 74), [.tm 53, .tm 55, .tm 57, .tm 59]⟩,
  ⟨(some 61), none, .mov, [.tm 3]⟩,
  ⟨(some 62), none, .mov, [.tm 3]⟩,
  ⟨(some 63), none, (.ari .mul), [.tm 61, .tm 62]⟩,
  ⟨(some 64), none, (.cmp .geq), [.tm 60, .tm 63]⟩,
  ⟨(some 8), none, .mov, [.tm 64]⟩])
 .ret)
  .skip))
 (.seq (.seq (.region [⟨(some 65), none, .mov, [.tm 13]⟩,
  ⟨(some 66), none, .mov, [.tm 14]⟩,
  ⟨(some 67), none, (.cmp .geq), [.tm 65, .tm 66]⟩])
 (.cond (.tm 67) (.seq (.region [⟨(some 68), none, (.fieldAddr 0), [.tm 6]⟩,
  ⟨(some 69), none, (.load false 1), [.tm 68]⟩,
  ⟨(some 70), none, (.fieldAddr 1), [.tm 6]⟩,
  ⟨(some 71), none, (.load false 1), [.tm 70]⟩,
  ⟨(some 72), none, (.fieldAddr 0), [.tm 5]⟩,
  ⟨(some 73), none, (.load false 1), [.tm 72]⟩,
  ⟨(some 74), none, (.fieldAddr 1), [.tm 5]⟩,
  ⟨(some 75), none, (.load false 1), [.tm 74]⟩,
  ⟨(some 76), none, (.call 74), [.tm 69, .tm 71, .tm 73, .tm 75]⟩,
  ⟨(some 77), none, .mov, [.tm 3]⟩,
  ⟨(some 78), none, .mov, [.tm 3]⟩,
  ⟨(some 79), none, (.ari .mul), [.tm 77, .tm 78]⟩,
  ⟨(some 80), none, (.cmp .geq), [.tm 76, .tm 79]⟩,
  ⟨(some 8), none, .mov, [.tm 80]⟩])
 .ret)
  .skip))
 (.seq (.region [⟨(some 81), none, .mov, [.tm 9]⟩,
  ⟨(some 82), none, .mov, [.tm 12]⟩,
  ⟨(some 83), none, (.ari .mul), [.tm 81, .tm 82]⟩,
  ⟨(some 84), none, .mov, [.tm 10]⟩,
  ⟨(some 85), none, .mov, [.tm 11]⟩,
  ⟨(some 86), none, (.ari .mul), [.tm 84, .tm 85]⟩,
  ⟨(some 87), none, (.ari .sub), [.tm 83, .tm 86]⟩,
  ⟨(some 15), none, .mov, [.tm 87]⟩])
 (.seq (.seq (.region [⟨(some 88), none, .mov, [.tm 15]⟩,
  ⟨(some 89), none, (.cmp .lss), [.tm 88, .cn (.int .i64 0)]⟩])
 (.cond (.tm 89) (.region [⟨(some 90), none, .mov, [.tm 15]⟩,
  ⟨(some 91), none, .neg, [.tm 90]⟩,
  ⟨(some 15), none, .mov, [.tm 91]⟩])
  .skip))
 (.seq (.region [⟨(some 92), none, .mov, [.tm 15]⟩,
  ⟨(some 93), none, .mov, [.tm 15]⟩,
  ⟨(some 94), none, (.call 81), [.tm 92, .tm 93]⟩,
  ⟨(some 95), none, .mov, [.tm 3]⟩,
  ⟨(some 96), none, .mov, [.tm 3]⟩,
  ⟨(some 97), none, (.call 81), [.tm 95, .tm 96]⟩,
  ⟨(some 98), none, .mov, [.tm 14]⟩,
  ⟨(some 99), none, (.conv .u64), [.tm 98]⟩,
  ⟨(some 100), none, (.call 72), [.tm 99]⟩,
  ⟨(some 101), none, (.call 73), [.tm 97, .tm 100]⟩,
  ⟨(some 102), none, (.call 50), [.tm 94, .tm 101]⟩,
  ⟨(some 103), none, (.cmp .geq), [.tm 102, .cn (.int .i64 0)]⟩,
  ⟨(some 8), none, .mov, [.tm 103]⟩])
 .ret))))))))) }
theorem v79_is : vfunc Try.prog Try.f79 = some v79 := by kernel_rfl
def v52 : VF := { ntmps := 13, res := [.tmp 2], body :=
 (.seq (.region [⟨(some 2), none, .mov, [.cn .nil]⟩])
 (.seq (.region [⟨(some 4), none, .mov, [.tm 0]⟩,
  ⟨(some 5), none, .mov, [.tm 0]⟩,
  ⟨(some 6), none, .neg, [.tm 5]⟩,
  ⟨(some 7), none, .max, [.tm 4, .tm 6]⟩,
  ⟨(some 8), none, (.conv .u64), [.tm 7]⟩,
  ⟨(some 9), none, (.call 72), [.tm 8]⟩,
  ⟨(some 3), none, .mov, [.tm 9]⟩])
 (.seq (.region [⟨(some 10), none, .mov, [.tm 3]⟩,
  ⟨(some 11), none, .mov, [.tm 3]⟩,
  ⟨(some 12), none, (.call 73), [.tm 10, .tm 11]⟩,
  ⟨(some 2), none, .mov, [.tm 12]⟩])
 .ret))) }
theorem v52_is : vfunc Try.prog Try.f52 = some v52 := by kernel_rfl


/-- The product of two numbers from 0 on. -/
def prodC : Ctr := { alias := false, of := fun l => match l with
  | [.int .i64 a, .int .i64 b] => .pre ((0 ≤ a ∧ a < 9000000000000000000) ∧ 0 ≤ b ∧ b < 9000000000000000000) (.fin (natS false (a * b).toNat) [])
  | _ => noC }
/-- The square of a number. -/
def nsqC : Ctr := { alias := false, of := fun l => match l with
  | [.int .i64 a] => .pre (-9000000000000000000 ≤ a ∧ a ≤ 9000000000000000000) (.fin (natS false (a * a).toNat) [])
  | _ => noC }
theorem i64u {a : Int} (h : 0 ≤ a ∧ a < 18446744073709551616) : IntKind.u64.wrap a = a := by
  obtain ⟨n, rfl⟩ := Int.eq_ofNat_of_zero_le h.1
  exact u_nat (by omega)
theorem nl_w {a : Nat} (h : a < 18446744073709551616) : nl a ≤ 2 := nl_le.2 (Nat.lt_of_lt_of_le h (by decide))
def P0 : Env := { ct := fun n => match n with | 72 => some ofC | 73 => some timesC | 50 => some orderC | _ => none, fn := fun _ => none, meth := fun _ _ => none }
theorem P0_ct72 : P0.ct 72 = some ofC := rfl
theorem P0_ct73 : P0.ct 73 = some timesC := rfl
theorem P0_ct50 : P0.ct 50 = some orderC := rfl
theorem P0_ok : EnvOk Try.prog P0 := by
  refine ⟨fun f c h => ?_, fun f vf h => ?_, (fun _ _ _ h => by cases h), by kernel_rfl⟩
  · simp only [P0] at h
    split at h
    · cases h; exact ⟨of_ok, Try.f72, Try.func72, by kernel_rfl, by kernel_rfl⟩
    · cases h; exact ⟨times_ok, Try.f73, Try.func73, by kernel_rfl, by kernel_rfl⟩
    · cases h; exact ⟨order_ok, Try.f50, Try.func50, by kernel_rfl, by kernel_rfl⟩
    · cases h
  · cases h

theorem prod_ok : prodC.ok Try.prog 81 := by
  refine contract Try.func81 v81_is P0_ok 100 prodC fun args k h => ⟨args, ?_⟩
  simp only [prodC] at h
  split at h
  · rename_i a b
    refine ⟨by simp [leL, le], ?_⟩
    obtain ⟨⟨⟨ha1, ha2⟩, hb1, hb2⟩, h⟩ := h
    dsimp only [v81, P0_ct72, P0_ct73, ofC, timesC, natS, go_sem, Option.bind, Option.map, List.append_nil, Nat.beq, List.cons_append, List.nil_append, List.append_eq, List.map_cons, List.map_nil, ite_self, reduceIte]
    simp only [true_and, and_true, imp_self, implies_true, decide_eq_true_eq, decide_eq_false_iff_not, Nat.reduceAdd, Nat.reduceLeDiff, Bool.not_not, reduceCtorEq, false_imp_iff, Bool.not_eq_true', Bool.not_eq_false', Bool.false_eq_true, and_self, forall_const, ne_eq, not_false_eq_true, Nat.reduceEqDiff]
    rw [i64u (a := a) (by omega), i64u (a := b) (by omega)]
    obtain ⟨a, rfl⟩ := Int.eq_ofNat_of_zero_le ha1
    obtain ⟨b, rfl⟩ := Int.eq_ofNat_of_zero_le hb1
    simp only [Int.toNat_natCast]
    have na := nl_w (a := a) (by omega)
    have nb := nl_w (a := b) (by omega)
    refine ⟨by omega, by omega, a, b, ⟨padP_nl (by omega), padP_nl (by omega), by omega⟩, ans_natS (t := true) ?_⟩
    rw [show ((a : Int) * (b : Int)).toNat = a * b by rw [← Int.natCast_mul, Int.toNat_natCast]] at h
    exact h
  · exact h.1.elim
theorem nsq_ok : nsqC.ok Try.prog 52 := by
  refine contract Try.func52 v52_is P0_ok 100 nsqC fun args k h => ⟨args, ?_⟩
  simp only [nsqC] at h
  split at h
  · rename_i a
    refine ⟨by simp [leL, le], ?_⟩
    obtain ⟨⟨ha1, ha2⟩, h⟩ := h
    dsimp only [v52, P0_ct72, P0_ct73, ofC, timesC, natS, go_sem, Option.bind, Option.map, List.append_nil, Nat.beq, List.cons_append, List.nil_append, List.append_eq, List.map_cons, List.map_nil, ite_self, reduceIte]
    simp only [true_and, and_true, imp_self, implies_true, decide_eq_true_eq, decide_eq_false_iff_not, Nat.reduceAdd, Nat.reduceLeDiff, Bool.not_not, reduceCtorEq, false_imp_iff, Bool.not_eq_true', Bool.not_eq_false', Bool.false_eq_true, and_self, forall_const, ne_eq, not_false_eq_true, Nat.reduceEqDiff]
    have e : IntKind.u64.wrap (max a (IntKind.i64.wrap (0 - a))) = (a.natAbs : Int) := by
      rw [IntWalk.i64_in _ (by omega), i64u (by omega)]; omega
    rw [e]
    simp only [Int.toNat_natCast]
    have na := nl_w (a := a.natAbs) (by omega)
    refine ⟨by omega, a.natAbs, a.natAbs, ⟨padP_nl (by omega), padP_nl (by omega), by omega⟩, ans_natS (t := true) ?_⟩
    have e : (a * a).toNat = a.natAbs * a.natAbs := by rw [← Int.natAbs_mul_self, Int.toNat_natCast]
    rw [e] at h
    exact h
  · exact h.1.elim

theorem ordN_ge {a b : Nat} : 0 ≤ ordN a b ↔ b ≤ a := by unfold ordN; split <;> (try split) <;> omega
theorem mul_rng {a b m n : Int} (ha : -m ≤ a ∧ a ≤ m) (hb : -n ≤ b ∧ b ≤ n) : -(m * n) ≤ a * b ∧ a * b ≤ m * n := by
  have h : (a * b).natAbs ≤ m.natAbs * n.natAbs := by
    rw [Int.natAbs_mul]; exact Nat.mul_le_mul (by omega) (by omega)
  have e : ((m.natAbs * n.natAbs : Nat) : Int) = m * n := by
    rw [Int.natCast_mul, Int.natAbs_of_nonneg (by omega), Int.natAbs_of_nonneg (by omega)]
  omega
theorem nl_w4 {a : Nat} (h : a < 340282366920938463463374607431768211456) : nl a ≤ 4 := nl_le.2 (Nat.lt_of_lt_of_le h (by decide))
def rclC : Ctr := { alias := false, of := fun l => match l with
  | [.agg [.int .i64 w1, .int .i64 w2], .agg [.int .i64 x, .int .i64 y, .int .i64 r, .int .i64 h], .agg [.int .i64 x', .int .i64 y', .int .i64 r', .int .i64 h'], .int .i64 d] => .pre (okW (w1, w2) ∧ okP ⟨x, y, r, h⟩ ∧ okP ⟨x', y', r', h'⟩ ∧ 0 ≤ d ∧ d ≤ 2000000) (.fin (.bool (!blkF (x - w1) (y - w2) (x' - w1) (y' - w2) d)) [])
  | _ => noC }
def P1 : Env := { ct := fun n => match n with | 81 => some prodC | 74 => some rsqC | 72 => some ofC | 73 => some timesC | 50 => some orderC | _ => none, fn := fun _ => none, meth := fun _ _ => none }
theorem P1_ct81 : P1.ct 81 = some prodC := rfl
theorem P1_ct74 : P1.ct 74 = some rsqC := rfl
theorem P1_ct72 : P1.ct 72 = some ofC := rfl
theorem P1_ct73 : P1.ct 73 = some timesC := rfl
theorem P1_ct50 : P1.ct 50 = some orderC := rfl
theorem P1_ok : EnvOk Try.prog P1 := by
  refine ⟨fun f c h => ?_, fun f vf h => ?_, (fun _ _ _ h => by cases h), by kernel_rfl⟩
  · simp only [P1] at h
    split at h
    · cases h; exact ⟨prod_ok, Try.f81, Try.func81, by kernel_rfl, by kernel_rfl⟩
    · cases h; exact ⟨rsq_ok, Try.f74, Try.func74, by kernel_rfl, by kernel_rfl⟩
    · cases h; exact ⟨of_ok, Try.f72, Try.func72, by kernel_rfl, by kernel_rfl⟩
    · cases h; exact ⟨times_ok, Try.f73, Try.func73, by kernel_rfl, by kernel_rfl⟩
    · cases h; exact ⟨order_ok, Try.f50, Try.func50, by kernel_rfl, by kernel_rfl⟩
    · cases h
  · cases h

theorem rcl_ok : rclC.ok Try.prog 79 := by
  refine contract Try.func79 v79_is P1_ok 200 rclC fun args k h => ⟨args, ?_⟩
  simp only [rclC] at h
  split at h
  · rename_i w1 w2 x y r hh x' y' r' hh' d
    refine ⟨by simp [leL, le], ?_⟩
    obtain ⟨⟨⟨⟨_, _⟩, _, _⟩, ⟨⟨_, _⟩, _, ⟨_, _⟩, _, _⟩, ⟨⟨_, _⟩, _, ⟨_, _⟩, _, _⟩, _, _⟩, h⟩ := h
    dsimp only at *
    dsimp only [v79, P1_ct81, P1_ct74, P1_ct72, P1_ct73, P1_ct50, prodC, rsqC, ofC, timesC, orderC, natS, go_sem, Option.bind, Option.map, List.append_nil, Nat.beq, List.cons_append, List.nil_append, List.append_eq, List.map_cons, List.map_nil, ite_self, reduceIte]
    simp only [true_and, and_true, imp_self, implies_true, decide_eq_true_eq, decide_eq_false_iff_not, Nat.reduceAdd, Nat.reduceLeDiff, Bool.not_not, reduceCtorEq, false_imp_iff, Bool.not_eq_true', Bool.not_eq_false', Bool.false_eq_true, and_self, forall_const, ne_eq, not_false_eq_true, Nat.reduceEqDiff]
    rw [mid_w (x := x - w1) (by omega), mid_w (x := y - w2) (by omega), mid_w (x := x' - w1) (by omega), mid_w (x := y' - w2) (by omega)]
    obtain ⟨X, hX⟩ : ∃ X, X = x - w1 := ⟨_, rfl⟩
    obtain ⟨Y, hY⟩ : ∃ X, X = y - w2 := ⟨_, rfl⟩
    obtain ⟨U, hU⟩ : ∃ X, X = x' - w1 := ⟨_, rfl⟩
    obtain ⟨V, hV⟩ : ∃ X, X = y' - w2 := ⟨_, rfl⟩
    rw [← hX, ← hY, ← hU, ← hV] at h
    rw [← hX, ← hY, ← hU, ← hV, show x' - x = U - X by omega, show y' - y = V - Y by omega]
    have bX : midN X := ⟨by omega, by omega⟩
    have bY : midN Y := ⟨by omega, by omega⟩
    have bU : midN U := ⟨by omega, by omega⟩
    have bV : midN V := ⟨by omega, by omega⟩
    have bd : midN d := ⟨by omega, by omega⟩
    have m1 := mid_mul bX bU
    have m2 := mid_mul bY bV
    have m3 := mid_mul bX bX
    have m4 := mid_mul bY bY
    have m5 := mid_mul bX bV
    have m6 := mid_mul bY bU
    have m7 := mid_mul bd bd
    have z3 := sq0 X
    have z4 := sq0 Y
    have z7 := sq0 d
    have mC := mul_rng (m := 20000000000000000) (n := 20000000000000000) (a := X * V - Y * U) (b := X * V - Y * U) (by omega) (by omega)
    have zC := sq0 (X * V - Y * U)
    have mD := mul_rng (m := 10000000000000000) (n := 20000000000000000) (a := d * d) (b := X * X + Y * Y) (by omega) (by omega)
    have epr : (((d * d).toNat * (X * X + Y * Y).toNat : Nat) : Int) = d * d * (X * X + Y * Y) := by
      rw [Int.natCast_mul, Int.toNat_of_nonneg z7, Int.toNat_of_nonneg (by omega)]
    rw [mid_w (x := X * U) (by omega), mid_w (x := Y * V) (by omega), mid_w (x := X * U + Y * V) (by omega), mid_w (x := X * X) (by omega), mid_w (x := Y * Y) (by omega), mid_w (x := X * X + Y * Y) (by omega),
      mid_w (x := X * V) (by omega), mid_w (x := Y * U) (by omega), mid_w (x := X * V - Y * U) (by omega), mid_w (x := 0 - (X * V - Y * U)) (by omega), mid_w (x := d * d) (by omega), i64u (a := X * X + Y * Y) (by omega)]
    have n1 := nl_w (a := (d * d).toNat) (by omega)
    have n2 := nl_w (a := (X * X + Y * Y).toNat) (by omega)
    have n3 := nl_w4 (a := (d * d).toNat * (X * X + Y * Y).toNat) (by omega)
    have n4 := nl_w4 (a := ((X * V - Y * U) * (X * V - Y * U)).toNat) (by omega)
    refine ⟨fun hal => ?_, fun hal => ⟨fun hall => ?_, fun hall => ?_⟩⟩
    · refine ⟨⟨⟨⟨by omega, by omega⟩, by omega, by omega⟩, ⟨by omega, by omega⟩, by omega, by omega⟩, ans_bool ?_⟩
      rw [show (!blkF X Y U V d) = decide (d * d ≤ sqF U V) by rw [blkF, if_pos hal, Bool.eq_iff_iff, Bool.not_eq_true', decide_eq_false_iff_not, decide_eq_true_iff]; omega] at h
      exact h
    · refine ⟨⟨⟨⟨by omega, by omega⟩, by omega, by omega⟩, ⟨by omega, by omega⟩, by omega, by omega⟩, ans_bool ?_⟩
      rw [show (!blkF X Y U V d) = decide (d * d ≤ sqF (U - X) (V - Y)) by rw [blkF, if_neg hal, if_pos (show sqF X Y ≤ X * U + Y * V from hall), Bool.eq_iff_iff, Bool.not_eq_true', decide_eq_false_iff_not, decide_eq_true_iff]; omega] at h
      exact h
    · refine ⟨fun hc => ?_, fun hc => ?_⟩
      · have eC2 : (0 - (X * V - Y * U)) * (0 - (X * V - Y * U)) = (X * V - Y * U) * (X * V - Y * U) := by rw [Int.zero_sub, Int.neg_mul_neg]
        have n4 : nl ((0 - (X * V - Y * U)) * (0 - (X * V - Y * U))).toNat ≤ 4 := by rw [eC2]; exact n4
        refine ⟨⟨by omega, by omega⟩, by omega, by omega, (d * d).toNat, (X * X + Y * Y).toNat, ⟨padP_nl (by omega), padP_nl (by omega), by omega⟩, ((0 - (X * V - Y * U)) * (0 - (X * V - Y * U))).toNat, (d * d).toNat * (X * X + Y * Y).toNat, ⟨padP_nl (by omega), padP_nl (by omega)⟩, ans_bool ?_⟩
        have eb : (!blkF X Y U V d) = decide (0 ≤ ordN ((0 - (X * V - Y * U)) * (0 - (X * V - Y * U))).toNat ((d * d).toNat * (X * X + Y * Y).toNat)) := by
          rw [eC2, Bool.eq_iff_iff, decide_eq_true_iff, ordN_ge, blkF, if_neg hal, if_neg (show ¬ sqF X Y ≤ X * U + Y * V from hall), Bool.not_eq_true', decide_eq_false_iff_not]
          show ¬ (X * V - Y * U) * (X * V - Y * U) < d * d * (X * X + Y * Y) ↔ _
          rw [← epr]
          generalize (X * V - Y * U) * (X * V - Y * U) = CC at *
          omega
        rw [eb] at h
        exact h
      · have eC2 : (X * V - Y * U) * (X * V - Y * U) = (X * V - Y * U) * (X * V - Y * U) := rfl
        refine ⟨⟨by omega, by omega⟩, by omega, by omega, (d * d).toNat, (X * X + Y * Y).toNat, ⟨padP_nl (by omega), padP_nl (by omega), by omega⟩, ((X * V - Y * U) * (X * V - Y * U)).toNat, (d * d).toNat * (X * X + Y * Y).toNat, ⟨padP_nl (by omega), padP_nl (by omega)⟩, ans_bool ?_⟩
        have eb : (!blkF X Y U V d) = decide (0 ≤ ordN ((X * V - Y * U) * (X * V - Y * U)).toNat ((d * d).toNat * (X * X + Y * Y).toNat)) := by
          rw [eC2, Bool.eq_iff_iff, decide_eq_true_iff, ordN_ge, blkF, if_neg hal, if_neg (show ¬ sqF X Y ≤ X * U + Y * V from hall), Bool.not_eq_true', decide_eq_false_iff_not]
          show ¬ (X * V - Y * U) * (X * V - Y * U) < d * d * (X * X + Y * Y) ↔ _
          rw [← epr]
          generalize (X * V - Y * U) * (X * V - Y * U) = CC at *
          omega
        rw [eb] at h
        exact h
  · exact h.1.elim
end Go.Proofs.Ytojaibhjfeojjaa

/- Layouts, walked: the reference's Reach, Blocked and Accept. -/
set_option linter.all false
namespace Go.Proofs.Ytojaibhjfeojjaa
open Go Go.Vx
set_option maxRecDepth 100000
set_option maxHeartbeats 4000000

def v67 : VF := { ntmps := 81, res := [.tmp 8], body :=
 (.seq (.region [⟨(some 4), none, .box, [.tm 0]⟩,
  ⟨(some 6), none, .box, [.tm 2]⟩,
  ⟨(some 8), none, .mov, [.cn (.bool false)]⟩])
 (.seq (.draw [] [⟨⟨(some 11), none, (.fieldAddr 3), [.tm 4]⟩, []⟩,
  ⟨⟨(some 12), none, (.load false 1), [.tm 11]⟩, []⟩,
  ⟨⟨(some 13), none, .mov, [.tm 1]⟩, []⟩,
  ⟨⟨(some 14), none, .mov, [.tm 3]⟩, []⟩,
  ⟨⟨(some 15), none, (.idxAddr 4), [.tm 13, .tm 14]⟩, []⟩,
  ⟨⟨(some 16), none, (.fieldAddr 2), [.tm 15]⟩, []⟩,
  ⟨⟨(some 17), none, (.load false 1), [.tm 16]⟩, []⟩,
  ⟨⟨(some 18), none, (.ari .add), [.tm 12, .tm 17]⟩, []⟩,
  ⟨⟨(some 9), none, .mov, [.tm 18]⟩, []⟩])
 (.seq (.seq (.draw [] [⟨⟨(some 19), none, (.fieldAddr 0), [.tm 6]⟩, []⟩,
  ⟨⟨(some 20), none, (.load false 1), [.tm 19]⟩, []⟩,
  ⟨⟨(some 21), none, (.fieldAddr 1), [.tm 6]⟩, []⟩,
  ⟨⟨(some 22), none, (.load false 1), [.tm 21]⟩, []⟩,
  ⟨⟨(some 23), none, .mov, [.tm 1]⟩, []⟩,
  ⟨⟨(some 24), none, .mov, [.tm 3]⟩, []⟩,
  ⟨⟨(some 25), none, (.idxAddr 4), [.tm 23, .tm 24]⟩, []⟩,
  ⟨⟨(some 26), none, (.fieldAddr 0), [.tm 25]⟩, []⟩,
  ⟨⟨(some 27), none, (.load false 1), [.tm 26]⟩, []⟩,
  ⟨⟨(some 28), none, .mov, [.tm 1]⟩, []⟩,
  ⟨⟨(some 29), none, .mov, [.tm 3]⟩, []⟩,
  ⟨⟨(some 30), none, (.idxAddr 4), [.tm 28, .tm 29]⟩, []⟩,
  ⟨⟨(some 31), none, (.fieldAddr 1), [.tm 30]⟩, []⟩,
  ⟨⟨(some 32), none, (.load false 1), [.tm 31]⟩, []⟩,
  ⟨⟨(some 34), none, .mov, [.tm 9]⟩, []⟩,
  ⟨⟨(some 35), none, .mov, [.tm 9]⟩, []⟩,
  ⟨⟨(some 36), none, (.ari .mul), [.tm 34, .tm 35]⟩, []⟩,
  ⟨⟨(some 33), none, (.call 74), [.tm 20, .tm 22, .tm 27, .tm 32]⟩, []⟩,
  ⟨⟨(some 37), none, (.cmp .gtr), [.tm 33, .tm 36]⟩, []⟩])
 (.cond (.tm 37) (.seq (.region [⟨(some 8), none, .mov, [.cn (.bool false)]⟩])
 .ret)
  .skip))
 (.seq (.seq (.region [⟨(some 10), none, .mov, [.cn (.int .i64 0)]⟩])
 (.block 0 (.loop (.seq (.seq (.region [⟨(some 38), none, .mov, [.tm 10]⟩,
  ⟨(some 39), none, .mov, [.tm 1]⟩,
  ⟨(some 40), none, .len, [.tm 39]⟩,
  ⟨(some 41), none, (.cmp .lss), [.tm 38, .tm 40]⟩])
 (.cond (.tm 41) .skip
  (.exit 0)))
 (.seq (.block 1 (.seq (.draw [] [⟨⟨(some 44), none, .mov, [.tm 10]⟩, []⟩,
  ⟨⟨(some 45), none, .mov, [.tm 3]⟩, []⟩,
  ⟨⟨(some 46), none, (.cmp .neq), [.tm 44, .tm 45]⟩, []⟩,
  ⟨⟨(some 47), none, .mov, [.tm 46]⟩, []⟩,
  ⟨⟨(some 48), (some (47, true)), .mov, [.tm 1]⟩, []⟩,
  ⟨⟨(some 49), (some (47, true)), .mov, [.tm 10]⟩, []⟩,
  ⟨⟨(some 50), (some (47, true)), (.idxAddr 4), [.tm 48, .tm 49]⟩, []⟩,
  ⟨⟨(some 51), (some (47, true)), (.fieldAddr 3), [.tm 50]⟩, []⟩,
  ⟨⟨(some 52), (some (47, true)), (.load false 1), [.tm 51]⟩, []⟩,
  ⟨⟨(some 53), (some (47, true)), .mov, [.tm 1]⟩, []⟩,
  ⟨⟨(some 54), (some (47, true)), .mov, [.tm 3]⟩, []⟩,
  ⟨⟨(some 55), (some (47, true)), (.idxAddr 4), [.tm 53, .tm 54]⟩, []⟩,
  ⟨⟨(some 56), (some (47, true)), (.fieldAddr 3), [.tm 55]⟩, []⟩,
  ⟨⟨(some 57), (some (47, true)), (.load false 1), [.tm 56]⟩, []⟩,
  ⟨⟨(some 58), (some (47, true)), (.cmp .gtr), [.tm 52, .tm 57]⟩, []⟩,
  ⟨⟨(some 59), none, .and, [.tm 47, .tm 58]⟩, []⟩,
  ⟨⟨(some 60), none, .mov, [.tm 59]⟩, []⟩,
  ⟨⟨(some 61), (some (60, true)), (.load true 2), [.tm 6]⟩, []⟩,
  ⟨⟨(some 62), (some (60, true)), .mov, [.tm 1]⟩, []⟩,
  ⟨⟨(some 63), (some (60, true)), .mov, [.tm 3]⟩, []⟩,
  ⟨⟨(some 64), (some (60, true)), (.idxAddr 4), [.tm 62, .tm 63]⟩, []⟩,
  ⟨⟨(some 65), (some (60, true)), (.load true 4), [.tm 64]⟩, []⟩,
  ⟨⟨(some 66), (some (60, true)), .mov, [.tm 1]⟩, []⟩,
  ⟨⟨(some 67), (some (60, true)), .mov, [.tm 10]⟩, []⟩,
  ⟨⟨(some 68), (some (60, true)), (.idxAddr 4), [.tm 66, .tm 67]⟩, []⟩,
  ⟨⟨(some 69), (some (60, true)), (.load true 4), [.tm 68]⟩, []⟩,
  ⟨⟨(some 70), (some (60, true)), .mov, [.tm 1]⟩, []⟩,
  ⟨⟨(some 71), (some (60, true)), .mov, [.tm 10]⟩, []⟩,
  ⟨⟨(some 72), (some (60, true)), (.idxAddr 4), [.tm 70, .tm 71]⟩, []⟩,
  ⟨⟨(some 73), (some (60, true)), (.fieldAddr 2), [.tm 72]⟩, []⟩,
  ⟨⟨(some 74), (some (60, true)), (.load false 1), [.tm 73]⟩, []⟩,
  ⟨⟨(some 75), (some (60, true)), (.fieldAddr 4), [.tm 4]⟩, []⟩,
  ⟨⟨(some 76), (some (60, true)), (.load false 1), [.tm 75]⟩, []⟩,
  ⟨⟨(some 77), (some (60, true)), (.ari .add), [.tm 74, .tm 76]⟩, []⟩,
  ⟨⟨(some 78), (some (60, true)), (.call 79), [.tm 61, .tm 65, .tm 69, .tm 77]⟩, []⟩,
  ⟨⟨(some 79), (some (60, true)), .not, [.tm 78]⟩, []⟩,
  ⟨⟨(some 80), none, .and, [.tm 60, .tm 79]⟩, []⟩])
 (.cond (.tm 80) (.seq (.region [⟨(some 8), none, .mov, [.cn (.bool false)]⟩])
 .ret)
  .skip)))
 (.region [⟨(some 42), none, .mov, [.tm 10]⟩,
  ⟨(some 43), none, (.ari .add), [.tm 42, .cn (.int .i64 1)]⟩,
  ⟨(some 10), none, .mov, [.tm 43]⟩]))))))
 (.seq (.region [⟨(some 8), none, .mov, [.cn (.bool true)]⟩])
 .ret))))) }
theorem v67_is : vfunc Try.prog Try.f67 = some v67 := by kernel_rfl
def v47 : VF := { ntmps := 30, res := [.tmp 6], body :=
 (.seq (.region [⟨(some 3), none, .box, [.tm 0]⟩,
  ⟨(some 6), none, .mov, [.cn .nil]⟩])
 (.seq (.region [⟨(some 7), none, .mov, [.cn .nil]⟩])
 (.seq (.seq (.region [⟨(some 8), none, .mov, [.cn (.int .i64 0)]⟩])
 (.block 0 (.loop (.seq (.seq (.region [⟨(some 9), none, .mov, [.tm 8]⟩,
  ⟨(some 10), none, (.fieldAddr 5), [.tm 3]⟩,
  ⟨(some 11), none, (.load false 1), [.tm 10]⟩,
  ⟨(some 12), none, .len, [.tm 11]⟩,
  ⟨(some 13), none, (.cmp .lss), [.tm 9, .tm 12]⟩])
 (.cond (.tm 13) .skip
  (.exit 0)))
 (.seq (.block 1 (.seq (.draw [] [⟨⟨(some 16), none, (.load true 6), [.tm 3]⟩, []⟩,
  ⟨⟨(some 17), none, .mov, [.tm 1]⟩, []⟩,
  ⟨⟨(some 18), none, (.fieldAddr 5), [.tm 3]⟩, []⟩,
  ⟨⟨(some 19), none, (.load false 1), [.tm 18]⟩, []⟩,
  ⟨⟨(some 20), none, .mov, [.tm 8]⟩, []⟩,
  ⟨⟨(some 21), none, (.idxAddr 2), [.tm 19, .tm 20]⟩, []⟩,
  ⟨⟨(some 22), none, (.load true 2), [.tm 21]⟩, []⟩,
  ⟨⟨(some 23), none, .mov, [.tm 2]⟩, []⟩,
  ⟨⟨(some 24), none, (.call 67), [.tm 16, .tm 17, .tm 22, .tm 23]⟩, []⟩])
 (.cond (.tm 24) (.region [⟨(some 25), none, .mov, [.tm 7]⟩,
  ⟨(some 26), none, .mov, [.tm 8]⟩,
  ⟨(some 27), none, (.buildSlice 1 1 [(.int .i64 0)] [(0, 1)]), [.tm 26]⟩,
  ⟨(some 28), none, (.append 1 8 [(.int .i64 0)]), [.tm 25, .tm 27]⟩,
  ⟨(some 7), none, .mov, [.tm 28]⟩])
  .skip)))
 (.region [⟨(some 14), none, .mov, [.tm 8]⟩,
  ⟨(some 15), none, (.ari .add), [.tm 14, .cn (.int .i64 1)]⟩,
  ⟨(some 8), none, .mov, [.tm 15]⟩]))))))
 (.seq (.region [⟨(some 29), none, .mov, [.tm 7]⟩,
  ⟨(some 6), none, .mov, [.tm 29]⟩])
 .ret)))) }
theorem v47_is : vfunc Try.prog Try.f47 = some v47 := by kernel_rfl
def v21 : VF := { ntmps := 31, res := [.tmp 6, .tmp 7], body :=
 (.seq (.region [⟨(some 3), none, .box, [.tm 0]⟩,
  ⟨(some 6), none, .mov, [.cn .nil]⟩,
  ⟨(some 7), none, .mov, [.cn (.int .i64 0)]⟩])
 (.seq (.region [⟨(some 9), none, (.load true 6), [.tm 3]⟩,
  ⟨(some 10), none, .mov, [.tm 1]⟩,
  ⟨(some 11), none, (.call 46), [.tm 9, .tm 10]⟩,
  ⟨(some 8), none, .mov, [.tm 11]⟩])
 (.seq (.seq (.region [⟨(some 12), none, .mov, [.tm 8]⟩,
  ⟨(some 13), none, (.cmp .eql), [.tm 12, .cn (.int .i64 0)]⟩,
  ⟨(some 14), none, .mov, [.tm 13]⟩,
  ⟨(some 15), (some (14, true)), .mov, [.tm 2]⟩,
  ⟨(some 16), (some (14, true)), (.cmp .lss), [.tm 15, .cn (.int .i64 0)]⟩,
  ⟨(some 17), (some (14, true)), .mov, [.tm 16]⟩,
  ⟨(some 18), (some (17, false)), .mov, [.tm 2]⟩,
  ⟨(some 19), (some (17, false)), .mov, [.tm 1]⟩,
  ⟨(some 20), (some (17, false)), .len, [.tm 19]⟩,
  ⟨(some 21), (some (17, false)), (.cmp .geq), [.tm 18, .tm 20]⟩,
  ⟨(some 22), (some (14, true)), .or, [.tm 17, .tm 21]⟩,
  ⟨(some 23), none, .and, [.tm 14, .tm 22]⟩])
 (.cond (.tm 23) (.region [⟨(some 8), none, .mov, [.cn (.int .i64 4)]⟩])
  .skip))
 (.seq (.seq (.region [⟨(some 24), none, .mov, [.tm 8]⟩,
  ⟨(some 25), none, (.cmp .neq), [.tm 24, .cn (.int .i64 0)]⟩])
 (.cond (.tm 25) (.seq (.region [⟨(some 26), none, .mov, [.tm 8]⟩,
  ⟨(some 6), none, .mov, [.cn .nil]⟩,
  ⟨(some 7), none, .mov, [.tm 26]⟩])
 .ret)
  .skip))
 (.seq (.region [⟨(some 27), none, (.load true 6), [.tm 3]⟩,
  ⟨(some 28), none, .mov, [.tm 1]⟩,
  ⟨(some 29), none, .mov, [.tm 2]⟩,
  ⟨(some 30), none, (.call 47), [.tm 27, .tm 28, .tm 29]⟩,
  ⟨(some 6), none, .mov, [.tm 30]⟩,
  ⟨(some 7), none, .mov, [.cn (.int .i64 0)]⟩])
 .ret))))) }
theorem v21_is : vfunc Try.prog Try.f21 = some v21 := by kernel_rfl
def v23 : VF := { ntmps := 32, res := [.tmp 4, .tmp 5], body :=
 (.seq (.region [⟨(some 2), none, .box, [.tm 0]⟩,
  ⟨(some 4), none, .mov, [.cn .nil]⟩,
  ⟨(some 5), none, .mov, [.cn (.int .i64 0)]⟩])
 (.seq (.region [⟨(some 9), none, (.load true 6), [.tm 2]⟩,
  ⟨(some 10), none, .mov, [.tm 1]⟩,
  ⟨(some 11), none, (.call 46), [.tm 9, .tm 10]⟩,
  ⟨(some 6), none, .mov, [.tm 11]⟩])
 (.seq (.seq (.region [⟨(some 12), none, .mov, [.tm 6]⟩,
  ⟨(some 13), none, (.cmp .neq), [.tm 12, .cn (.int .i64 0)]⟩])
 (.cond (.tm 13) (.seq (.region [⟨(some 14), none, .mov, [.tm 6]⟩,
  ⟨(some 4), none, .mov, [.cn .nil]⟩,
  ⟨(some 5), none, .mov, [.tm 14]⟩])
 .ret)
  .skip))
 (.seq (.region [⟨(some 7), none, .mov, [.cn .nil]⟩])
 (.seq (.seq (.region [⟨(some 8), none, .mov, [.cn (.int .i64 0)]⟩])
 (.block 0 (.loop (.seq (.seq (.region [⟨(some 15), none, .mov, [.tm 8]⟩,
  ⟨(some 16), none, .mov, [.tm 1]⟩,
  ⟨(some 17), none, .len, [.tm 16]⟩,
  ⟨(some 18), none, (.cmp .lss), [.tm 15, .tm 17]⟩])
 (.cond (.tm 18) .skip
  (.exit 0)))
 (.seq (.block 1 (.seq (.region [⟨(some 21), none, (.load true 6), [.tm 2]⟩,
  ⟨(some 22), none, .mov, [.tm 1]⟩,
  ⟨(some 23), none, .mov, [.tm 8]⟩,
  ⟨(some 24), none, (.call 47), [.tm 21, .tm 22, .tm 23]⟩,
  ⟨(some 25), none, .len, [.tm 24]⟩,
  ⟨(some 26), none, (.cmp .eql), [.tm 25, .cn (.int .i64 0)]⟩])
 (.cond (.tm 26) (.region [⟨(some 27), none, .mov, [.tm 7]⟩,
  ⟨(some 28), none, .mov, [.tm 8]⟩,
  ⟨(some 29), none, (.buildSlice 1 1 [(.int .i64 0)] [(0, 1)]), [.tm 28]⟩,
  ⟨(some 30), none, (.append 1 8 [(.int .i64 0)]), [.tm 27, .tm 29]⟩,
  ⟨(some 7), none, .mov, [.tm 30]⟩])
  .skip)))
 (.region [⟨(some 19), none, .mov, [.tm 8]⟩,
  ⟨(some 20), none, (.ari .add), [.tm 19, .cn (.int .i64 1)]⟩,
  ⟨(some 8), none, .mov, [.tm 20]⟩]))))))
 (.seq (.region [⟨(some 31), none, .mov, [.tm 7]⟩,
  ⟨(some 4), none, .mov, [.tm 31]⟩,
  ⟨(some 5), none, .mov, [.cn (.int .i64 0)]⟩])
 .ret)))))) }
theorem v23_is : vfunc Try.prog Try.f23 = some v23 := by kernel_rfl
def v30 : VF := { ntmps := 30, res := [.tmp 4, .tmp 5], body :=
 (.seq (.region [⟨(some 2), none, .box, [.tm 0]⟩,
  ⟨(some 4), none, .mov, [.cn (.bool false)]⟩,
  ⟨(some 5), none, .mov, [.cn (.int .i64 0)]⟩])
 (.seq (.region [⟨(some 9), none, (.load true 6), [.tm 2]⟩,
  ⟨(some 10), none, .mov, [.tm 1]⟩,
  ⟨(some 11), none, (.call 46), [.tm 9, .tm 10]⟩,
  ⟨(some 6), none, .mov, [.tm 11]⟩])
 (.seq (.seq (.region [⟨(some 12), none, .mov, [.tm 6]⟩,
  ⟨(some 13), none, (.cmp .neq), [.tm 12, .cn (.int .i64 0)]⟩])
 (.cond (.tm 13) (.seq (.region [⟨(some 14), none, .mov, [.tm 6]⟩,
  ⟨(some 4), none, .mov, [.cn (.bool false)]⟩,
  ⟨(some 5), none, .mov, [.tm 14]⟩])
 .ret)
  .skip))
 (.seq (.region [⟨(some 16), none, (.load true 6), [.tm 2]⟩,
  ⟨(some 17), none, .mov, [.tm 1]⟩,
  ⟨(some 18), none, (.call 23), [.tm 16, .tm 17]⟩,
  ⟨(some 15), none, .mov, [.tm 18]⟩,
  ⟨(some 19), none, (.ext 0), [.tm 15]⟩,
  ⟨(some 20), none, (.ext 1), [.tm 15]⟩,
  ⟨(some 7), none, .mov, [.tm 19]⟩,
  ⟨(some 8), none, .mov, [.tm 20]⟩])
 (.seq (.region [⟨(some 21), none, (.load true 6), [.tm 2]⟩,
  ⟨(some 22), none, .mov, [.tm 1]⟩,
  ⟨(some 23), none, (.call 31), [.tm 21, .tm 22]⟩,
  ⟨(some 24), none, (.cmp .eql), [.tm 23, .cn (.int .i64 0)]⟩,
  ⟨(some 25), none, .mov, [.tm 24]⟩,
  ⟨(some 26), (some (25, true)), .mov, [.tm 7]⟩,
  ⟨(some 27), (some (25, true)), .len, [.tm 26]⟩,
  ⟨(some 28), (some (25, true)), (.cmp .eql), [.tm 27, .cn (.int .i64 0)]⟩,
  ⟨(some 29), none, .and, [.tm 25, .tm 28]⟩,
  ⟨(some 4), none, .mov, [.tm 29]⟩,
  ⟨(some 5), none, .mov, [.cn (.int .i64 0)]⟩])
 .ret))))) }
theorem v30_is : vfunc Try.prog Try.f30 = some v30 := by kernel_rfl


theorem sqF_neg {x y u v : Int} : sqF (u - x) (v - y) = sqF (x - u) (y - v) := by
  unfold sqF
  rw [← Int.neg_sub x u, ← Int.neg_sub y v, Int.neg_mul_neg, Int.neg_mul_neg]
def T0 : Env := { ct := fun n => match n with | 74 => some rsqC | 79 => some rclC | _ => none, fn := fun _ => none, meth := fun _ _ => none }
theorem T0_ct74 : T0.ct 74 = some rsqC := rfl
theorem T0_ct79 : T0.ct 79 = some rclC := rfl
theorem T0_ok : EnvOk Try.prog T0 := by
  refine ⟨fun f c h => ?_, fun f vf h => ?_, (fun _ _ _ h => by cases h), by kernel_rfl⟩
  · simp only [T0] at h
    split at h
    · cases h; exact ⟨rsq_ok, Try.f74, Try.func74, by kernel_rfl, by kernel_rfl⟩
    · cases h; exact ⟨rcl_ok, Try.f79, Try.func79, by kernel_rfl, by kernel_rfl⟩
    · cases h
  · cases h

theorem rrd_ok : rchC.ok Try.prog 67 := by
  refine contract Try.func67 v67_is T0_ok 200 rchC fun args k h => ?_
  simp only [rchC] at h
  split at h
  · rename_i w d c a s t z n sz get t' z' n' sz' get' w1 w2 i
    obtain ⟨b, l, ⟨hbp, ⟨rfl, rfl, hg⟩, hb, hl, hlen, hw, hi1, hi2⟩, h⟩ := h
    refine ⟨[.agg (encB t z b), .vs t' z' l.length 4 (fun k => encS (l.getD k default)), .agg [.int .i64 w1, .int .i64 w2], .int .i64 i], ⟨brd_le hbp, by simpa [le] using hg, by simp [leL, le], ⟨rfl, rfl⟩, trivial⟩, ?_⟩
    obtain ⟨i, rfl⟩ := Int.eq_ofNat_of_zero_le hi1
    have h : k (.bool (reachF b l (w1, w2) (l.getD i default))) [] := h
    dsimp only [v67, T0_ct74, rsqC, encB, encT, encS, Int.toNat_natCast, go_sem, Option.bind, Option.map, List.append_nil, Nat.beq, List.cons_append, List.nil_append, List.append_eq, List.map_cons, List.map_nil, ite_self, reduceIte]
    simp only [true_and, and_true, imp_self, implies_true, decide_eq_true_eq, decide_eq_false_iff_not, Nat.reduceAdd, Nat.reduceLeDiff, Bool.not_not, reduceCtorEq, false_imp_iff, Bool.not_eq_true', Bool.not_eq_false', Bool.false_eq_true, and_self, forall_const, ne_eq, not_false_eq_true, Nat.reduceEqDiff]
    have hpi : okP (l.getD i default) := hl _ (getD_mem (by omega))
    obtain ⟨p, hp⟩ : ∃ p, p = l.getD i default := ⟨_, rfl⟩
    rw [← hp] at h hpi
    rw [← hp]
    have hb' := hb
    have hpi' := hpi
    have hw' := hw
    obtain ⟨_, _, _, ⟨_, _⟩, ⟨_, _⟩, _⟩ := hb'
    obtain ⟨⟨_, _⟩, _, ⟨_, _⟩, _, _⟩ := hpi'
    obtain ⟨⟨_, _⟩, _, _⟩ := hw'
    dsimp only at *
    have m := mid_mul (x := b.a + p.r) (y := b.a + p.r) ⟨by omega, by omega⟩ ⟨by omega, by omega⟩
    rw [mid_w (x := b.a + p.r) (by omega), mid_w (x := (b.a + p.r) * (b.a + p.r)) (by omega), sqF_neg]
    unfold reachF at h
    refine ⟨⟨by omega, hi2⟩, ⟨by omega, hi2⟩, ⟨by omega, hi2⟩, ⟨⟨⟨by omega, by omega⟩, by omega, by omega⟩, ⟨by omega, by omega⟩, by omega, by omega⟩, fun hf => ?_, fun hf => ?_⟩
    · rw [decide_eq_true hf] at h; exact ans_bool h
    · rw [decide_eq_false hf, Bool.not_false, Bool.true_and] at h
      refine Loop.keep [1, 1, 0, 1] Nat (fun j => [(10, .int .i64 j)]) (fun _ => []) [] (fun j => j ≤ l.length ∧ ∀ m, m < j → hitF b p (w1, w2) (l.getD m default) = false) (fun j => l.length - j) ?_ ?_
      · refine ⟨0, ⟨Nat.zero_le _, fun j h => by omega⟩, ?_⟩
        dsimp only [go_sem, Option.bind, Option.map, List.append_nil, Nat.beq, List.cons_append, List.nil_append, List.append_eq, List.map_cons, List.map_nil, ite_self, reduceIte]
        simp only [leS_mk, leL_cons, leL_nil, le_junk, le_int, le_bool, le_nil, leLL_nil, leLL_cons, leH_cons, leH_nil, leH1_box, leH1_own, leH1_gone, le_vs, le_agg, le_tup, le_ptr, le_own, le_xp, le_fn, le_opt, le_val, le_elem, le_nil_own, le_nil_vs, leH_ghost, leL_chunk, leXL_id, bnd_int, bnd_bool, bnd_val, bnd_nil, bnd_junk, bnd_vs, bnd_xp, bnd_agg, bnd_tup, bnd_ptr, bnd_own, bnd_elem, bnd_fn, bnd_iface, bnd_opt, bndL_nil, bndL_cons, lenH_cons, lenH_nil, imp_self, implies_true, true_and, and_true]
        simp
      · rintro j ⟨hj, ha⟩
        dsimp only [T0_ct79, rclC, encB, encT, encS, Int.toNat_natCast, go_sem, Option.bind, Option.map, List.append_nil, Nat.beq, List.cons_append, List.nil_append, List.append_eq, List.map_cons, List.map_nil, ite_self, reduceIte]
        simp only [true_and, and_true, imp_self, implies_true, decide_eq_true_eq, decide_eq_false_iff_not, Nat.reduceAdd, Nat.reduceLeDiff, Bool.not_not, reduceCtorEq, false_imp_iff, Bool.not_eq_true', Bool.not_eq_false', Bool.false_eq_true, and_self, forall_const, ne_eq, not_false_eq_true, Nat.reduceEqDiff]
        rw [← hp]
        have hwr : ∀ m, m < l.length → IntKind.i64.wrap ((l.getD m default).r + b.s) = (l.getD m default).r + b.s := fun m hm => by
          obtain ⟨⟨_, _⟩, _⟩ := hl _ (getD_mem hm)
          exact mid_w (by omega)
        refine ⟨fun hlt => ?_, fun hge => ?_⟩
        · have hpj : okP (l.getD j default) := hl _ (getD_mem (by omega))
          have e : (!decide ((j : Int) = (i : Int)) && decide (p.h < (l.getD j default).h) && blkF (p.x - w1) (p.y - w2) ((l.getD j default).x - w1) ((l.getD j default).y - w2) ((l.getD j default).r + b.s)) = hitF b p (w1, w2) (l.getD j default) := by
            unfold hitF
            by_cases hji : j = i
            · subst hji
              rw [← hp, decide_eq_false (show ¬ p.h < p.h by omega)]; simp
            · rw [decide_eq_false (show ¬ (j : Int) = (i : Int) by omega), Bool.not_false, Bool.true_and]
          rw [hwr j (by omega)]
          refine ⟨fun _ => ⟨by omega, hlt⟩, fun _ => ⟨by omega, hi2⟩, fun _ => ⟨by omega, hi2⟩, fun _ => ⟨by omega, hlt⟩, fun _ => ⟨by omega, hlt⟩, fun _ => ⟨hw, hpi, hpj, ?_⟩, fun hh => ?_, fun hh => ?_⟩
          · obtain ⟨⟨_, _⟩, _⟩ := hpj
            omega
          · rw [e] at hh
            rw [List.any_eq_true.2 ⟨_, getD_mem (show j < l.length by omega), hh⟩] at h
            exact ans_bool h
          · rw [e] at hh
            refine ⟨j + 1, ⟨by omega, fun m hm => ?_⟩, by omega, ?_⟩
            · rcases Nat.lt_or_ge m j with h' | h'
              · exact ha m h'
              · obtain rfl : m = j := by omega
                exact hh
            · simp only [w_succ (i := j) (n := l.length) (by omega) (by omega), leS_mk, leL_cons, leL_nil, le_junk, le_int, le_bool, le_nil, leLL_nil, leLL_cons, leH_cons, leH_nil, leH1_box, leH1_own, leH1_gone, le_vs, le_agg, le_tup, le_ptr, le_own, le_xp, le_fn, le_opt, le_val, le_elem, le_nil_own, le_nil_vs, leH_ghost, leL_chunk, leXL_id, bnd_int, bnd_bool, bnd_val, bnd_nil, bnd_junk, bnd_vs, bnd_xp, bnd_agg, bnd_tup, bnd_ptr, bnd_own, bnd_elem, bnd_fn, bnd_iface, bnd_opt, bndL_nil, bndL_cons, lenH_cons, lenH_nil, imp_self, implies_true, true_and, and_true] <;> simp
        · have e : l.any (hitF b p (w1, w2)) = false := List.any_eq_false.2 fun x hx => by
            obtain ⟨m, hm, rfl⟩ := mem_getD hx
            rw [ha m (by omega)]; simp
          rw [e] at h
          exact ans_bool h
  · exact h.1.elim
theorem reachL_nil {b : Brd} {l : List Std} {p : Std} : (reachL b l p).length = 0 ↔ (b.wk.any fun w => reachF b l w p) = false := by
  rw [List.length_eq_zero_iff, reachL, List.filter_eq_nil_iff, List.any_eq_false]
  constructor
  · intro h x hx
    obtain ⟨j, hj, rfl⟩ := mem_getD hx
    exact h j (List.mem_range.2 hj)
  · intro h j hj
    exact h _ (getD_mem (List.mem_range.1 hj))
def rrhC : Ctr := { alias := false, of := fun l => match l with
  | [.agg [.int .i64 w, .int .i64 d, .int .i64 c, .int .i64 a, .int .i64 s, .vs _ _ n sz get], .vs _ _ n' sz' get', .int .i64 i] => .ex Brd fun b => .ex (List Std) fun l => .pre (brdP b w d c a s n sz get ∧ lsP 4 encS n' sz' get' l ∧ okB b ∧ (∀ p ∈ l, okP p) ∧ l.length ≤ 200 ∧ 0 ≤ i ∧ i < l.length) (.fin (lsR (reachL b l (l.getD i.toNat default))) [])
  | _ => noC }
def T1 : Env := { ct := fun n => match n with | 67 => some rchC | _ => none, fn := fun _ => none, meth := fun _ _ => none }
theorem T1_ct67 : T1.ct 67 = some rchC := rfl
theorem T1_ok : EnvOk Try.prog T1 := by
  refine ⟨fun f c h => ?_, fun f vf h => ?_, (fun _ _ _ h => by cases h), by kernel_rfl⟩
  · simp only [T1] at h
    split at h
    · cases h; exact ⟨rrd_ok, Try.f67, Try.func67, by kernel_rfl, by kernel_rfl⟩
    · cases h
  · cases h

theorem rrh_ok : rrhC.ok Try.prog 47 := by
  refine contract Try.func47 v47_is T1_ok 200 rrhC fun args k h => ?_
  simp only [rrhC] at h
  split at h
  · rename_i w d c a s t z n sz get t' z' n' sz' get' i
    obtain ⟨b, l, ⟨hbp, ⟨rfl, rfl, hg⟩, hb, hl, hlen, hi1, hi2⟩, h⟩ := h
    refine ⟨[.agg (encB t z b), .vs t' z' l.length 4 (fun k => encS (l.getD k default)), .int .i64 i], ⟨brd_le hbp, by simpa [le] using hg, ⟨rfl, rfl⟩, trivial⟩, ?_⟩
    obtain ⟨i, rfl⟩ := Int.eq_ofNat_of_zero_le hi1
    have h : k (lsR (reachL b l (l.getD i default))) [] := h
    dsimp only [v47, encB, encT, encS, Int.toNat_natCast, go_sem, Option.bind, Option.map, List.append_nil, Nat.beq, List.cons_append, List.nil_append, List.append_eq, List.map_cons, List.map_nil, ite_self, reduceIte]
    simp only [true_and, and_true, imp_self, implies_true, decide_eq_true_eq, decide_eq_false_iff_not, Nat.reduceAdd, Nat.reduceLeDiff, Bool.not_not, reduceCtorEq, false_imp_iff, Bool.not_eq_true', Bool.not_eq_false', Bool.false_eq_true, and_self, forall_const, ne_eq, not_false_eq_true, Nat.reduceEqDiff]
    obtain ⟨F, hF⟩ : ∃ F, F = fun k => reachF b l (b.wk.getD k default) (l.getD i default) := ⟨_, rfl⟩
    have hR : reachL b l (l.getD i default) = part F b.wk.length := by rw [hF]; rfl
    rw [hR] at h
    have h8 := hb.2.2.2.2.2.1
    refine Loop.keep [1, 0, 0] Nat (fun j => [(7, .own 1 0 (part F j).length 1), (8, .int .i64 j)]) (fun j => [(1, .own (decide ((part F j).length = 0)) 1 (part F j).length (fun k => encI ((part F j).getD k default)))]) [.gone] (fun j => j ≤ b.wk.length) (fun j => b.wk.length - j) ?_ ?_
    · refine ⟨0, Nat.zero_le _, ?_⟩
      dsimp only [go_sem, Option.bind, Option.map, List.append_nil, Nat.beq, List.cons_append, List.nil_append, List.append_eq, List.map_cons, List.map_nil, ite_self, reduceIte]
      simp only [leS_mk, leL_cons, leL_nil, le_junk, le_int, le_bool, le_nil, leLL_nil, leLL_cons, leH_cons, leH_nil, leH1_box, leH1_own, leH1_gone, le_vs, le_agg, le_tup, le_ptr, le_own, le_xp, le_fn, le_opt, le_val, le_elem, le_nil_own, le_nil_vs, leH_ghost, leL_chunk, leXL_id, bnd_int, bnd_bool, bnd_val, bnd_nil, bnd_junk, bnd_vs, bnd_xp, bnd_agg, bnd_tup, bnd_ptr, bnd_own, bnd_elem, bnd_fn, bnd_iface, bnd_opt, bndL_nil, bndL_cons, lenH_cons, lenH_nil, imp_self, implies_true, true_and, and_true]
      simp [part]
    · rintro j hj
      dsimp only [T1_ct67, rchC, encT, encS, encI, Int.toNat_natCast, go_sem, Option.bind, Option.map, List.append_nil, Nat.beq, List.cons_append, List.nil_append, List.append_eq, List.map_cons, List.map_nil, ite_self, reduceIte]
      simp only [true_and, and_true, imp_self, implies_true, decide_eq_true_eq, decide_eq_false_iff_not, Nat.reduceAdd, Nat.reduceLeDiff, Bool.not_not, reduceCtorEq, false_imp_iff, Bool.not_eq_true', Bool.not_eq_false', Bool.false_eq_true, and_self, forall_const, ne_eq, not_false_eq_true, Nat.reduceEqDiff]
      refine ⟨fun hlt => ?_, fun hge => ?_⟩
      · refine ⟨⟨by omega, by omega⟩, b, l, ⟨brdP_self b, lsP_self, hb, hl, hlen, okB_wk hb (by omega), by omega, by omega⟩, fun ht => ?_, fun ht => ?_⟩
        · have hFj : F j = true := by rw [hF]; exact ht
          have hpl := part_le F j
          refine ⟨by decide, ⟨by unfold capOk; omega, fun q hq => match q, hq with | 0, _ => ⟨rfl, trivial, trivial⟩⟩, j + 1, by omega, by omega, ?_⟩
          rw [part_t hFj]
          simp only [List.length_append, List.length_singleton, getD_app, w_succ (i := j) (n := 1000000000000) (by omega) (by omega), leS_mk, leL_cons, leL_nil, le_junk, le_int, le_bool, le_nil, leLL_nil, leLL_cons, leH_cons, leH_nil, leH1_box, leH1_own, leH1_gone, le_vs, le_agg, le_tup, le_ptr, le_own, le_xp, le_fn, le_opt, le_val, le_elem, le_nil_own, le_nil_vs, leH_ghost, leL_chunk, leXL_id, bnd_int, bnd_bool, bnd_val, bnd_nil, bnd_junk, bnd_vs, bnd_xp, bnd_agg, bnd_tup, bnd_ptr, bnd_own, bnd_elem, bnd_fn, bnd_iface, bnd_opt, bndL_nil, bndL_cons, lenH_cons, lenH_nil, imp_self, implies_true, true_and, and_true]
          refine ⟨by omega, by simp, fun q hq => ?_⟩
          rcases Nat.lt_or_ge q (part F j).length with h' | h'
          · rw [if_pos h', if_pos h']; exact leL_self [.int _ _] ⟨trivial, trivial⟩
          · obtain rfl : q = (part F j).length := by omega
            rw [if_neg (by omega), if_neg (by omega), if_pos rfl, Nat.sub_self]
            exact leL_self [.int _ _] ⟨trivial, trivial⟩
        · have hFj : F j = false := by rw [hF]; exact ht
          refine ⟨j + 1, by omega, by omega, ?_⟩
          rw [part_f hFj]
          simp only [w_succ (i := j) (n := 1000000000000) (by omega) (by omega), leS_mk, leL_cons, leL_nil, le_junk, le_int, le_bool, le_nil, leLL_nil, leLL_cons, leH_cons, leH_nil, leH1_box, leH1_own, leH1_gone, le_vs, le_agg, le_tup, le_ptr, le_own, le_xp, le_fn, le_opt, le_val, le_elem, le_nil_own, le_nil_vs, leH_ghost, leL_chunk, leXL_id, bnd_int, bnd_bool, bnd_val, bnd_nil, bnd_junk, bnd_vs, bnd_xp, bnd_agg, bnd_tup, bnd_ptr, bnd_own, bnd_elem, bnd_fn, bnd_iface, bnd_opt, bndL_nil, bndL_cons, lenH_cons, lenH_nil, imp_self, implies_true, true_and, and_true]
          omega
      · obtain rfl : j = b.wk.length := by omega
        refine ans_le (show k _ [] from h) ?_ ?_
        · dsimp only [lsR, expo, encI, go_sem, Option.bind, Option.map, List.append_nil, Nat.beq, List.cons_append, List.nil_append, List.append_eq, List.map_cons, List.map_nil, ite_self, reduceIte]
          simp only [leS_mk, leL_cons, leL_nil, le_junk, le_int, le_bool, le_nil, leLL_nil, leLL_cons, leH_cons, leH_nil, leH1_box, leH1_own, leH1_gone, le_vs, le_agg, le_tup, le_ptr, le_own, le_xp, le_fn, le_opt, le_val, le_elem, le_nil_own, le_nil_vs, leH_ghost, leL_chunk, leXL_id, bnd_int, bnd_bool, bnd_val, bnd_nil, bnd_junk, bnd_vs, bnd_xp, bnd_agg, bnd_tup, bnd_ptr, bnd_own, bnd_elem, bnd_fn, bnd_iface, bnd_opt, bndL_nil, bndL_cons, lenH_cons, lenH_nil, imp_self, implies_true, true_and, and_true]
        · intro _; simp [freshS, freshL, encI, lsR]
  · exact h.1.elim
def T2 : Env := { ct := fun n => match n with | 46 => some chC | 47 => some rrhC | _ => none, fn := fun _ => none, meth := fun _ _ => none }
theorem T2_ct46 : T2.ct 46 = some chC := rfl
theorem T2_ct47 : T2.ct 47 = some rrhC := rfl
theorem T2_ok : EnvOk Try.prog T2 := by
  refine ⟨fun f c h => ?_, fun f vf h => ?_, (fun _ _ _ h => by cases h), by kernel_rfl⟩
  · simp only [T2] at h
    split at h
    · cases h; exact ⟨val_ok, Try.f46, Try.func46, by kernel_rfl, by kernel_rfl⟩
    · cases h; exact ⟨rrh_ok, Try.f47, Try.func47, by kernel_rfl, by kernel_rfl⟩
    · cases h
  · cases h

theorem rre_ok : reaC.ok Try.prog 21 := by
  refine contract Try.func21 v21_is T2_ok 200 reaC fun args k h => ?_
  simp only [reaC] at h
  split at h
  · rename_i w d c a s t z n sz get t' z' n' sz' get' i
    obtain ⟨b, l, ⟨hbp, ⟨rfl, rfl, hg⟩, hbig⟩, h⟩ := h
    refine ⟨[.agg (encB t z b), .vs t' z' l.length 4 (fun k => encS (l.getD k default)), .int .i64 i], ⟨brd_le hbp, by simpa [le] using hg, ⟨rfl, rfl⟩, trivial⟩, ?_⟩
    have h : k (.tup [lsR (reachR b l i).1, .int .i64 (reachR b l i).2]) [] := h
    dsimp only [v21, T2_ct46, T2_ct47, chC, rrhC, lsR, encB, encT, encS, encI, go_sem, Option.bind, Option.map, List.append_nil, Nat.beq, List.cons_append, List.nil_append, List.append_eq, List.map_cons, List.map_nil, ite_self, reduceIte]
    simp only [true_and, and_true, imp_self, implies_true, decide_eq_true_eq, decide_eq_false_iff_not, Nat.reduceAdd, Nat.reduceLeDiff, Bool.not_not, reduceCtorEq, false_imp_iff, Bool.not_eq_true', Bool.not_eq_false', Bool.false_eq_true, and_self, forall_const, ne_eq, not_false_eq_true, Nat.reduceEqDiff]
    unfold reachR at h
    refine ⟨b, l, ⟨brdP_self b, lsP_self⟩, ?_⟩
    refine ⟨fun a c => by rw [decide_eq_true a, decide_eq_false c]; rfl, fun hc => ⟨fun _ => ?_, fun hh => absurd hh (by decide)⟩, fun hc => ⟨fun hn => ?_, fun hn => ?_⟩⟩
    · simp only [Bool.and_eq_true, Bool.or_eq_true, decide_eq_true_eq] at hc
      rw [if_neg (by omega), if_pos hc.2] at h
      exact ans_lin h
    · rw [if_pos hn] at h
      exact ans_lin h
    · obtain ⟨hb, hl, hlen⟩ := chkF_ok hn
      rw [hn] at hc
      have hc : ¬ (i < 0 ∨ (l.length : Int) ≤ i) := fun hh => by
        have : (decide (i < 0) || decide ((l.length : Int) ≤ i)) = true := by simpa using hh
        rw [this] at hc; cases hc
      rw [if_neg (by omega), if_neg hc] at h
      refine ⟨b, l, ⟨brdP_self b, lsP_self, hb, hl, hlen, by omega, by omega⟩, ans_le (show k _ [] from h) ?_ ?_⟩
      · dsimp only [lsR, expo, encI, go_sem, Option.bind, Option.map, List.append_nil, Nat.beq, List.cons_append, List.nil_append, List.append_eq, List.map_cons, List.map_nil, ite_self, reduceIte]
        simp only [leS_mk, leL_cons, leL_nil, le_junk, le_int, le_bool, le_nil, leLL_nil, leLL_cons, leH_cons, leH_nil, leH1_box, leH1_own, leH1_gone, le_vs, le_agg, le_tup, le_ptr, le_own, le_xp, le_fn, le_opt, le_val, le_elem, le_nil_own, le_nil_vs, leH_ghost, leL_chunk, leXL_id, bnd_int, bnd_bool, bnd_val, bnd_nil, bnd_junk, bnd_vs, bnd_xp, bnd_agg, bnd_tup, bnd_ptr, bnd_own, bnd_elem, bnd_fn, bnd_iface, bnd_opt, bndL_nil, bndL_cons, lenH_cons, lenH_nil, imp_self, implies_true, true_and, and_true]
      · intro _; simp [freshS, freshL, encI, lsR]
  · exact h.1.elim
theorem rbk_ok : bkdC.ok Try.prog 23 := by
  refine contract Try.func23 v23_is T2_ok 200 bkdC fun args k h => ?_
  simp only [bkdC] at h
  split at h
  · rename_i w d c a s t z n sz get t' z' n' sz' get'
    obtain ⟨b, l, ⟨hbp, rfl, rfl, hg⟩, h⟩ := h
    refine ⟨[.agg (encB t z b), .vs t' z' l.length 4 (fun k => encS (l.getD k default))], ⟨brd_le hbp, by simpa [le] using hg, trivial⟩, ?_⟩
    have h : k (.tup [lsR (blockedR b l).1, .int .i64 (blockedR b l).2]) [] := h
    dsimp only [v23, T2_ct46, chC, encB, encT, encS, encI, go_sem, Option.bind, Option.map, List.append_nil, Nat.beq, List.cons_append, List.nil_append, List.append_eq, List.map_cons, List.map_nil, ite_self, reduceIte]
    simp only [true_and, and_true, imp_self, implies_true, decide_eq_true_eq, decide_eq_false_iff_not, Nat.reduceAdd, Nat.reduceLeDiff, Bool.not_not, reduceCtorEq, false_imp_iff, Bool.not_eq_true', Bool.not_eq_false', Bool.false_eq_true, and_self, forall_const, ne_eq, not_false_eq_true, Nat.reduceEqDiff]
    unfold blockedR at h
    refine ⟨b, l, ⟨brdP_self b, lsP_self⟩, fun hc => ?_, fun hc => ?_⟩
    · rw [if_pos hc] at h; exact ans_lin h
    · rw [if_neg (by omega)] at h
      obtain ⟨hb, hl, hlen⟩ := chkF_ok hc
      obtain ⟨F, hF⟩ : ∃ F, F = fun i => !b.wk.any fun w => reachF b l w (l.getD i default) := ⟨_, rfl⟩
      have hR : blockedL b l = part F l.length := by rw [hF]; rfl
      rw [hR] at h
      refine Loop.keep [1, 0] Nat (fun j => [(7, .own 1 0 (part F j).length 1), (8, .int .i64 j)]) (fun j => [(1, .own (decide ((part F j).length = 0)) 1 (part F j).length (fun k => encI ((part F j).getD k default)))]) [.gone] (fun j => j ≤ l.length) (fun j => l.length - j) ?_ ?_
      · refine ⟨0, Nat.zero_le _, ?_⟩
        dsimp only [go_sem, Option.bind, Option.map, List.append_nil, Nat.beq, List.cons_append, List.nil_append, List.append_eq, List.map_cons, List.map_nil, ite_self, reduceIte]
        simp only [leS_mk, leL_cons, leL_nil, le_junk, le_int, le_bool, le_nil, leLL_nil, leLL_cons, leH_cons, leH_nil, leH1_box, leH1_own, leH1_gone, le_vs, le_agg, le_tup, le_ptr, le_own, le_xp, le_fn, le_opt, le_val, le_elem, le_nil_own, le_nil_vs, leH_ghost, leL_chunk, leXL_id, bnd_int, bnd_bool, bnd_val, bnd_nil, bnd_junk, bnd_vs, bnd_xp, bnd_agg, bnd_tup, bnd_ptr, bnd_own, bnd_elem, bnd_fn, bnd_iface, bnd_opt, bndL_nil, bndL_cons, lenH_cons, lenH_nil, imp_self, implies_true, true_and, and_true]
        simp [part]
      · rintro j hj
        dsimp only [T2_ct47, rrhC, lsR, encT, encS, encI, Int.toNat_natCast, go_sem, Option.bind, Option.map, List.append_nil, Nat.beq, List.cons_append, List.nil_append, List.append_eq, List.map_cons, List.map_nil, ite_self, reduceIte]
        simp only [true_and, and_true, imp_self, implies_true, decide_eq_true_eq, decide_eq_false_iff_not, Nat.reduceAdd, Nat.reduceLeDiff, Bool.not_not, reduceCtorEq, false_imp_iff, Bool.not_eq_true', Bool.not_eq_false', Bool.false_eq_true, and_self, forall_const, ne_eq, not_false_eq_true, Nat.reduceEqDiff]
        refine ⟨fun hlt => ?_, fun hge => ?_⟩
        · have hpl := part_le F j
          refine ⟨b, l, ⟨brdP_self b, lsP_self, hb, hl, hlen, by omega, by omega⟩, fun ht => ?_, fun ht => ?_⟩
          · have hFj : F j = true := by rw [hF]; show (!_) = true; rw [reachL_nil.1 (by omega)]; rfl
            refine ⟨by decide, ⟨by unfold capOk; omega, fun q hq => match q, hq with | 0, _ => ⟨rfl, trivial, trivial⟩⟩, j + 1, by omega, by omega, ?_⟩
            rw [part_t hFj]
            simp only [List.length_append, List.length_singleton, getD_app, w_succ (i := j) (n := 1000000000000) (by omega) (by omega), leS_mk, leL_cons, leL_nil, le_junk, le_int, le_bool, le_nil, leLL_nil, leLL_cons, leH_cons, leH_nil, leH1_box, leH1_own, leH1_gone, le_vs, le_agg, le_tup, le_ptr, le_own, le_xp, le_fn, le_opt, le_val, le_elem, le_nil_own, le_nil_vs, leH_ghost, leL_chunk, leXL_id, bnd_int, bnd_bool, bnd_val, bnd_nil, bnd_junk, bnd_vs, bnd_xp, bnd_agg, bnd_tup, bnd_ptr, bnd_own, bnd_elem, bnd_fn, bnd_iface, bnd_opt, bndL_nil, bndL_cons, lenH_cons, lenH_nil, imp_self, implies_true, true_and, and_true]
            refine ⟨by omega, by simp, fun q hq => ?_⟩
            rcases Nat.lt_or_ge q (part F j).length with h' | h'
            · rw [if_pos h', if_pos h']; exact leL_self [.int _ _] ⟨trivial, trivial⟩
            · obtain rfl : q = (part F j).length := by omega
              rw [if_neg (by omega), if_neg (by omega), if_pos rfl, Nat.sub_self]
              exact leL_self [.int _ _] ⟨trivial, trivial⟩
          · have hFj : F j = false := by
              rw [hF]; show (!_) = false
              cases hx : b.wk.any fun w => reachF b l w (l.getD j default) with
              | true => rfl
              | false => exact absurd (reachL_nil.2 hx) (by omega)
            refine ⟨j + 1, by omega, by omega, ?_⟩
            rw [part_f hFj]
            simp only [w_succ (i := j) (n := 1000000000000) (by omega) (by omega), leS_mk, leL_cons, leL_nil, le_junk, le_int, le_bool, le_nil, leLL_nil, leLL_cons, leH_cons, leH_nil, leH1_box, leH1_own, leH1_gone, le_vs, le_agg, le_tup, le_ptr, le_own, le_xp, le_fn, le_opt, le_val, le_elem, le_nil_own, le_nil_vs, leH_ghost, leL_chunk, leXL_id, bnd_int, bnd_bool, bnd_val, bnd_nil, bnd_junk, bnd_vs, bnd_xp, bnd_agg, bnd_tup, bnd_ptr, bnd_own, bnd_elem, bnd_fn, bnd_iface, bnd_opt, bndL_nil, bndL_cons, lenH_cons, lenH_nil, imp_self, implies_true, true_and, and_true]
            omega
        · obtain rfl : j = l.length := by omega
          refine ans_le (show k _ [] from h) ?_ ?_
          · dsimp only [lsR, expo, encI, go_sem, Option.bind, Option.map, List.append_nil, Nat.beq, List.cons_append, List.nil_append, List.append_eq, List.map_cons, List.map_nil, ite_self, reduceIte]
            simp only [leS_mk, leL_cons, leL_nil, le_junk, le_int, le_bool, le_nil, leLL_nil, leLL_cons, leH_cons, leH_nil, leH1_box, leH1_own, leH1_gone, le_vs, le_agg, le_tup, le_ptr, le_own, le_xp, le_fn, le_opt, le_val, le_elem, le_nil_own, le_nil_vs, leH_ghost, leL_chunk, leXL_id, bnd_int, bnd_bool, bnd_val, bnd_nil, bnd_junk, bnd_vs, bnd_xp, bnd_agg, bnd_tup, bnd_ptr, bnd_own, bnd_elem, bnd_fn, bnd_iface, bnd_opt, bndL_nil, bndL_cons, lenH_cons, lenH_nil, imp_self, implies_true, true_and, and_true]
          · intro _; simp [freshS, freshL, encI, lsR]
  · exact h.1.elim
def T3 : Env := { ct := fun n => match n with | 46 => some chC | 23 => some bkdC | 31 => some ckC | _ => none, fn := fun _ => none, meth := fun _ _ => none }
theorem T3_ct46 : T3.ct 46 = some chC := rfl
theorem T3_ct23 : T3.ct 23 = some bkdC := rfl
theorem T3_ct31 : T3.ct 31 = some ckC := rfl
theorem T3_ok : EnvOk Try.prog T3 := by
  refine ⟨fun f c h => ?_, fun f vf h => ?_, (fun _ _ _ h => by cases h), by kernel_rfl⟩
  · simp only [T3] at h
    split at h
    · cases h; exact ⟨val_ok, Try.f46, Try.func46, by kernel_rfl, by kernel_rfl⟩
    · cases h; exact ⟨rbk_ok, Try.f23, Try.func23, by kernel_rfl, by kernel_rfl⟩
    · cases h; exact ⟨rck_ok, Try.f31, Try.func31, by kernel_rfl, by kernel_rfl⟩
    · cases h
  · cases h

theorem rac_ok : accC.ok Try.prog 30 := by
  refine contract Try.func30 v30_is T3_ok 200 accC fun args k h => ?_
  simp only [accC] at h
  split at h
  · rename_i w d c a s t z n sz get t' z' n' sz' get'
    obtain ⟨b, l, ⟨hbp, rfl, rfl, hg⟩, h⟩ := h
    refine ⟨[.agg (encB t z b), .vs t' z' l.length 4 (fun k => encS (l.getD k default))], ⟨brd_le hbp, by simpa [le] using hg, trivial⟩, ?_⟩
    have h : k (.tup [.bool (acceptR b l).1, .int .i64 (acceptR b l).2]) [] := h
    dsimp only [v30, T3_ct46, T3_ct23, T3_ct31, chC, bkdC, ckC, lsR, encB, encT, encS, encI, go_sem, Option.bind, Option.map, List.append_nil, Nat.beq, List.cons_append, List.nil_append, List.append_eq, List.map_cons, List.map_nil, ite_self, reduceIte]
    simp only [true_and, and_true, imp_self, implies_true, decide_eq_true_eq, decide_eq_false_iff_not, Nat.reduceAdd, Nat.reduceLeDiff, Bool.not_not, reduceCtorEq, false_imp_iff, Bool.not_eq_true', Bool.not_eq_false', Bool.false_eq_true, and_self, forall_const, ne_eq, not_false_eq_true, Nat.reduceEqDiff]
    unfold acceptR at h
    refine ⟨b, l, ⟨brdP_self b, lsP_self⟩, ?_⟩
    refine ⟨fun hc => ?_, fun hc => ?_⟩
    · rw [if_pos hc] at h
      exact ans_bi h
    · rw [if_neg (by omega)] at h
      refine ⟨b, l, ⟨brdP_self b, lsP_self⟩, by decide, by decide, b, l, ⟨brdP_self b, lsP_self⟩, ?_⟩
      have e1 : checkF b l = standF b l := by rw [checkF, if_neg (by omega)]
      have e2 : (blockedR b l).1 = blockedL b l := by rw [blockedR, if_neg (by omega)]
      rw [e1, e2]
      exact ans_bi (by simpa using h)
  · exact h.1.elim
end Go.Proofs.Ytojaibhjfeojjaa

/- Layouts: the laws of checks and of reach, walked. -/
set_option linter.all false
namespace Go.Proofs.Ytojaibhjfeojjaa
open Go Go.Vx
set_option maxRecDepth 100000
set_option maxHeartbeats 4000000

def v9 : VF := { ntmps := 45, res := [.tmp 4], body :=
 (.seq (.region [⟨(some 2), none, .box, [.tm 0]⟩,
  ⟨(some 4), none, .mov, [.cn (.bool false)]⟩])
 (.seq (.seq (.region [⟨(some 9), none, (.load true 6), [.tm 2]⟩,
  ⟨(some 10), none, .mov, [.tm 1]⟩,
  ⟨(some 11), none, (.call 20), [.tm 9, .tm 10]⟩])
 (.cond (.tm 11) (.seq (.region [⟨(some 12), none, (.call 10), []⟩,
  ⟨(some 4), none, .mov, [.tm 12]⟩])
 .ret)
  .skip))
 (.seq (.region [⟨(some 14), none, (.load true 6), [.tm 2]⟩,
  ⟨(some 15), none, .mov, [.tm 1]⟩,
  ⟨(some 16), none, (.call 27), [.tm 14, .tm 15]⟩,
  ⟨(some 13), none, .mov, [.tm 16]⟩,
  ⟨(some 17), none, (.ext 0), [.tm 13]⟩,
  ⟨(some 18), none, (.ext 1), [.tm 13]⟩,
  ⟨(some 5), none, .mov, [.tm 17]⟩,
  ⟨(some 6), none, .mov, [.tm 18]⟩])
 (.seq (.region [⟨(some 20), none, (.load true 6), [.tm 2]⟩,
  ⟨(some 21), none, .mov, [.tm 1]⟩,
  ⟨(some 22), none, (.call 30), [.tm 20, .tm 21]⟩,
  ⟨(some 19), none, .mov, [.tm 22]⟩,
  ⟨(some 23), none, (.ext 0), [.tm 19]⟩,
  ⟨(some 24), none, (.ext 1), [.tm 19]⟩,
  ⟨(some 7), none, .mov, [.tm 23]⟩,
  ⟨(some 8), none, .mov, [.tm 24]⟩])
 (.seq (.draw [] [⟨⟨(some 25), none, (.load true 6), [.tm 2]⟩, []⟩,
  ⟨⟨(some 26), none, .mov, [.tm 1]⟩, []⟩,
  ⟨⟨(some 28), none, (.load true 6), [.tm 2]⟩, []⟩,
  ⟨⟨(some 29), none, .mov, [.tm 1]⟩, []⟩,
  ⟨⟨(some 27), none, (.call 26), [.tm 25, .tm 26]⟩, []⟩,
  ⟨⟨(some 30), none, (.call 31), [.tm 28, .tm 29]⟩, []⟩,
  ⟨⟨(some 31), none, (.cmp .eql), [.tm 27, .tm 30]⟩, []⟩,
  ⟨⟨(some 32), none, .mov, [.tm 31]⟩, []⟩,
  ⟨⟨(some 33), (some (32, true)), .mov, [.tm 5]⟩, []⟩,
  ⟨⟨(some 34), (some (32, true)), .mov, [.tm 7]⟩, []⟩,
  ⟨⟨(some 35), (some (32, true)), (.eqb false), [.tm 33, .tm 34]⟩, []⟩,
  ⟨⟨(some 36), none, .and, [.tm 32, .tm 35]⟩, []⟩,
  ⟨⟨(some 37), none, .mov, [.tm 36]⟩, []⟩,
  ⟨⟨(some 38), (some (37, true)), .mov, [.tm 6]⟩, []⟩,
  ⟨⟨(some 39), (some (37, true)), .mov, [.tm 8]⟩, []⟩,
  ⟨⟨(some 40), (some (37, true)), (.cmp .eql), [.tm 38, .tm 39]⟩, []⟩,
  ⟨⟨(some 41), none, .and, [.tm 37, .tm 40]⟩, []⟩,
  ⟨⟨(some 42), none, .mov, [.tm 41]⟩, []⟩,
  ⟨⟨(some 43), (some (42, true)), (.call 10), []⟩, []⟩,
  ⟨⟨(some 44), none, .and, [.tm 42, .tm 43]⟩, []⟩,
  ⟨⟨(some 4), none, .mov, [.tm 44]⟩, []⟩])
 .ret))))) }
theorem v9_is : vfunc Try.prog Try.f9 = some v9 := by kernel_rfl
def v6 : VF := { ntmps := 66, res := [.tmp 6], body :=
 (.seq (.region [⟨(some 3), none, .box, [.tm 0]⟩,
  ⟨(some 6), none, .mov, [.cn (.bool false)]⟩])
 (.seq (.seq (.region [⟨(some 15), none, (.load true 6), [.tm 3]⟩,
  ⟨(some 16), none, .mov, [.tm 1]⟩,
  ⟨(some 17), none, (.call 20), [.tm 15, .tm 16]⟩])
 (.cond (.tm 17) (.seq (.region [⟨(some 18), none, (.call 10), []⟩,
  ⟨(some 6), none, .mov, [.tm 18]⟩])
 .ret)
  .skip))
 (.seq (.region [⟨(some 20), none, (.load true 6), [.tm 3]⟩,
  ⟨(some 21), none, .mov, [.tm 1]⟩,
  ⟨(some 22), none, .mov, [.tm 2]⟩,
  ⟨(some 23), none, (.call 17), [.tm 20, .tm 21, .tm 22]⟩,
  ⟨(some 19), none, .mov, [.tm 23]⟩,
  ⟨(some 24), none, (.ext 0), [.tm 19]⟩,
  ⟨(some 25), none, (.ext 1), [.tm 19]⟩,
  ⟨(some 7), none, .mov, [.tm 24]⟩,
  ⟨(some 8), none, .mov, [.tm 25]⟩])
 (.seq (.region [⟨(some 27), none, (.load true 6), [.tm 3]⟩,
  ⟨(some 28), none, .mov, [.tm 1]⟩,
  ⟨(some 29), none, .mov, [.tm 2]⟩,
  ⟨(some 30), none, (.call 21), [.tm 27, .tm 28, .tm 29]⟩,
  ⟨(some 26), none, .mov, [.tm 30]⟩,
  ⟨(some 31), none, (.ext 0), [.tm 26]⟩,
  ⟨(some 32), none, (.ext 1), [.tm 26]⟩,
  ⟨(some 9), none, .mov, [.tm 31]⟩,
  ⟨(some 10), none, .mov, [.tm 32]⟩])
 (.seq (.region [⟨(some 34), none, (.load true 6), [.tm 3]⟩,
  ⟨(some 35), none, .mov, [.tm 1]⟩,
  ⟨(some 36), none, (.call 22), [.tm 34, .tm 35]⟩,
  ⟨(some 33), none, .mov, [.tm 36]⟩,
  ⟨(some 37), none, (.ext 0), [.tm 33]⟩,
  ⟨(some 38), none, (.ext 1), [.tm 33]⟩,
  ⟨(some 11), none, .mov, [.tm 37]⟩,
  ⟨(some 12), none, .mov, [.tm 38]⟩])
 (.seq (.region [⟨(some 40), none, (.load true 6), [.tm 3]⟩,
  ⟨(some 41), none, .mov, [.tm 1]⟩,
  ⟨(some 42), none, (.call 23), [.tm 40, .tm 41]⟩,
  ⟨(some 39), none, .mov, [.tm 42]⟩,
  ⟨(some 43), none, (.ext 0), [.tm 39]⟩,
  ⟨(some 44), none, (.ext 1), [.tm 39]⟩,
  ⟨(some 13), none, .mov, [.tm 43]⟩,
  ⟨(some 14), none, .mov, [.tm 44]⟩])
 (.seq (.region [⟨(some 45), none, .mov, [.tm 7]⟩,
  ⟨(some 46), none, .mov, [.tm 9]⟩,
  ⟨(some 47), none, (.call 16), [.tm 45, .tm 46]⟩,
  ⟨(some 48), none, .mov, [.tm 47]⟩,
  ⟨(some 49), (some (48, true)), .mov, [.tm 8]⟩,
  ⟨(some 50), (some (48, true)), .mov, [.tm 10]⟩,
  ⟨(some 51), (some (48, true)), (.cmp .eql), [.tm 49, .tm 50]⟩,
  ⟨(some 52), none, .and, [.tm 48, .tm 51]⟩,
  ⟨(some 53), none, .mov, [.tm 52]⟩,
  ⟨(some 54), (some (53, true)), .mov, [.tm 11]⟩,
  ⟨(some 55), (some (53, true)), .mov, [.tm 13]⟩,
  ⟨(some 56), (some (53, true)), (.call 16), [.tm 54, .tm 55]⟩,
  ⟨(some 57), none, .and, [.tm 53, .tm 56]⟩,
  ⟨(some 58), none, .mov, [.tm 57]⟩,
  ⟨(some 59), (some (58, true)), .mov, [.tm 12]⟩,
  ⟨(some 60), (some (58, true)), .mov, [.tm 14]⟩,
  ⟨(some 61), (some (58, true)), (.cmp .eql), [.tm 59, .tm 60]⟩,
  ⟨(some 62), none, .and, [.tm 58, .tm 61]⟩,
  ⟨(some 63), none, .mov, [.tm 62]⟩,
  ⟨(some 64), (some (63, true)), (.call 10), []⟩,
  ⟨(some 65), none, .and, [.tm 63, .tm 64]⟩,
  ⟨(some 6), none, .mov, [.tm 65]⟩])
 .ret))))))) }
theorem v6_is : vfunc Try.prog Try.f6 = some v6 := by kernel_rfl


def shS : List Sh := [.int .i64, .int .i64, .int .i64, .int .i64]
def shT : List Sh := [.int .i64, .int .i64]
def shB : List Sh := [.int .i64, .int .i64, .int .i64, .int .i64, .int .i64, .slice shT]
theorem s_of {c : List SV} (h : okSL shS c) : ∃ p : Std, c = encS p := by
  obtain ⟨_, _, rfl, ⟨n1, rfl, _⟩, e1⟩ := okSL_cons_inv h
  obtain ⟨_, _, rfl, ⟨n2, rfl, _⟩, e2⟩ := okSL_cons_inv e1
  obtain ⟨_, _, rfl, ⟨n3, rfl, _⟩, e3⟩ := okSL_cons_inv e2
  obtain ⟨_, _, rfl, ⟨n4, rfl, _⟩, e4⟩ := okSL_cons_inv e3
  cases okSL_nil_inv e4
  exact ⟨⟨n1, n2, n3, n4⟩, rfl⟩
theorem t_of {c : List SV} (h : okSL shT c) : ∃ p : Int × Int, c = encT p := by
  obtain ⟨_, _, rfl, ⟨n1, rfl, _⟩, e1⟩ := okSL_cons_inv h
  obtain ⟨_, _, rfl, ⟨n2, rfl, _⟩, e2⟩ := okSL_cons_inv e1
  cases okSL_nil_inv e2
  exact ⟨(n1, n2), rfl⟩
theorem list_of {α : Type} [Inhabited α] {sh : List Sh} {e : α → List SV} (he : ∀ c, okSL sh c → ∃ p, c = e p) {v : SV} (h : okS (.slice sh) v) :
    ∃ (z : Bool) (l : List α), l.length ≤ maxLen ∧ leX v (.vs false z l.length (lenSh sh) (fun k => e (l.getD k default))) := by
  obtain ⟨z, n, get, rfl, hn, hall⟩ := h
  have : ∀ k, ∃ p, k < n → get k = e p := fun k => by
    by_cases hk : k < n
    · obtain ⟨p, hp⟩ := he _ (hall k hk); exact ⟨p, fun _ => hp⟩
    · exact ⟨default, fun h => absurd h hk⟩
  obtain ⟨f, hf⟩ := Classical.axiomOfChoice this
  refine ⟨z, (List.range n).map f, by simpa using hn, ?_⟩
  have hl : ((List.range n).map f).length = n := by simp
  rw [hl]
  refine ⟨id, rfl, rfl, rfl, fun k hk => ?_⟩
  show leXL (get k) (e (((List.range n).map f).getD k default))
  rw [hf k hk, show ((List.range n).map f).getD k default = f k by rw [List.getD_eq_getElem?_getD, List.getElem?_map, List.getElem?_range hk]; rfl]
  exact leXL_self _
theorem b_of {c : List SV} (h : okSL shB c) : ∃ (z : Bool) (b : Brd), b.wk.length ≤ maxLen ∧ leXL c (encB false z b) := by
  obtain ⟨_, _, rfl, ⟨n1, rfl, _⟩, e1⟩ := okSL_cons_inv h
  obtain ⟨_, _, rfl, ⟨n2, rfl, _⟩, e2⟩ := okSL_cons_inv e1
  obtain ⟨_, _, rfl, ⟨n3, rfl, _⟩, e3⟩ := okSL_cons_inv e2
  obtain ⟨_, _, rfl, ⟨n4, rfl, _⟩, e4⟩ := okSL_cons_inv e3
  obtain ⟨_, _, rfl, ⟨n5, rfl, _⟩, e5⟩ := okSL_cons_inv e4
  obtain ⟨_, _, rfl, h6, e6⟩ := okSL_cons_inv e5
  cases okSL_nil_inv e6
  obtain ⟨z, l, hl, hle⟩ := list_of (fun _ => t_of) h6
  exact ⟨z, ⟨n1, n2, n3, n4, n5, l⟩, hl, ⟨rfl, rfl⟩, ⟨rfl, rfl⟩, ⟨rfl, rfl⟩, ⟨rfl, rfl⟩, ⟨rfl, rfl⟩, hle, trivial⟩

def L1 : Env := { ct := fun n => match n with | 10 => some trueC | 20 => some farC | 27 => some accC | 30 => some accC | 26 => some ckC | 31 => some ckC | _ => none, fn := fun _ => none, meth := fun _ _ => none }
theorem L1_ct10 : L1.ct 10 = some trueC := rfl
theorem L1_ct20 : L1.ct 20 = some farC := rfl
theorem L1_ct27 : L1.ct 27 = some accC := rfl
theorem L1_ct30 : L1.ct 30 = some accC := rfl
theorem L1_ct26 : L1.ct 26 = some ckC := rfl
theorem L1_ct31 : L1.ct 31 = some ckC := rfl
theorem L1_ok : EnvOk Try.prog L1 := by
  refine ⟨fun f c h => ?_, fun f vf h => ?_, (fun _ _ _ h => by cases h), by kernel_rfl⟩
  · simp only [L1] at h
    split at h
    · cases h; exact ⟨awake_ok, Try.f10, Try.func10, by kernel_rfl, by kernel_rfl⟩
    · cases h; exact ⟨far_ok, Try.f20, Try.func20, by kernel_rfl, by kernel_rfl⟩
    · cases h; exact ⟨acc_ok, Try.f27, Try.func27, by kernel_rfl, by kernel_rfl⟩
    · cases h; exact ⟨rac_ok, Try.f30, Try.func30, by kernel_rfl, by kernel_rfl⟩
    · cases h; exact ⟨ck_ok, Try.f26, Try.func26, by kernel_rfl, by kernel_rfl⟩
    · cases h; exact ⟨rck_ok, Try.f31, Try.func31, by kernel_rfl, by kernel_rfl⟩
    · cases h
  · cases h

def lawK : List PSh := [⟨true, shB⟩, ⟨false, [.slice shS]⟩]
theorem lawChecks : (lawC lawK).ok Try.prog 9 := by
  refine contract Try.func9 v9_is L1_ok 400 (lawC lawK) fun args k h => ?_
  obtain ⟨ha, hk⟩ := h
  obtain ⟨_, _, rfl, h1, e1⟩ := okPL_cons_inv ha
  obtain ⟨cs, rfl, hcs⟩ := okP_agg_inv h1
  obtain ⟨v, _, rfl, h2, e2⟩ := okPL_cons_inv e1
  cases okPL_nil_inv e2
  obtain ⟨z, b, hbl, hbe⟩ := b_of hcs
  obtain ⟨z', l, hll, hle⟩ := list_of (fun _ => s_of) (okP_one_inv h2)
  rw [maxLen_eq] at hbl hll
  refine ⟨[.agg (encB false z b), .vs false z' l.length 4 (fun k => encS (l.getD k default))], ⟨leXL_le _ _ hbe (by simp [encB, bndL, bnd]), leX_le _ _ hle trivial, trivial⟩, ?_⟩
  dsimp only [v9, L1_ct10, L1_ct20, L1_ct27, L1_ct30, L1_ct26, L1_ct31, trueC, farC, accC, ckC, encB, encT, encS, go_sem, Option.bind, Option.map, List.append_nil, Nat.beq, List.cons_append, List.nil_append, List.append_eq, List.map_cons, List.map_nil, ite_self, reduceIte]
  simp only [true_and, and_true, imp_self, implies_true, decide_eq_true_eq, decide_eq_false_iff_not, Nat.reduceAdd, Nat.reduceLeDiff, Bool.not_not, reduceCtorEq, false_imp_iff, Bool.not_eq_true', Bool.not_eq_false', Bool.false_eq_true, and_self, forall_const, ne_eq, not_false_eq_true, Nat.reduceEqDiff]
  have hk' : k (.bool true) [] := hk
  refine ⟨b, brdP_self b, fun _ => ans_bool hk', fun _ => ?_⟩
  refine ⟨b, l, ⟨brdP_self b, lsP_self⟩, by decide, by decide, b, l, ⟨brdP_self b, lsP_self⟩, by decide, by decide, b, l, ⟨brdP_self b, lsP_self⟩, b, l, ⟨brdP_self b, lsP_self⟩, ?_⟩
  rw [decide_eq_true rfl, decide_eq_true rfl]
  exact ans_bool (by simpa using hk')
def L2 : Env := { ct := fun n => match n with | 10 => some trueC | 20 => some farC | 16 => some samIC | 17 => some reaC | 21 => some reaC | 22 => some bkdC | 23 => some bkdC | _ => none, fn := fun _ => none, meth := fun _ _ => none }
theorem L2_ct10 : L2.ct 10 = some trueC := rfl
theorem L2_ct20 : L2.ct 20 = some farC := rfl
theorem L2_ct16 : L2.ct 16 = some samIC := rfl
theorem L2_ct17 : L2.ct 17 = some reaC := rfl
theorem L2_ct21 : L2.ct 21 = some reaC := rfl
theorem L2_ct22 : L2.ct 22 = some bkdC := rfl
theorem L2_ct23 : L2.ct 23 = some bkdC := rfl
theorem L2_ok : EnvOk Try.prog L2 := by
  refine ⟨fun f c h => ?_, fun f vf h => ?_, (fun _ _ _ h => by cases h), by kernel_rfl⟩
  · simp only [L2] at h
    split at h
    · cases h; exact ⟨awake_ok, Try.f10, Try.func10, by kernel_rfl, by kernel_rfl⟩
    · cases h; exact ⟨far_ok, Try.f20, Try.func20, by kernel_rfl, by kernel_rfl⟩
    · cases h; exact ⟨samI_ok, Try.f16, Try.func16, by kernel_rfl, by kernel_rfl⟩
    · cases h; exact ⟨rea_ok, Try.f17, Try.func17, by kernel_rfl, by kernel_rfl⟩
    · cases h; exact ⟨rre_ok, Try.f21, Try.func21, by kernel_rfl, by kernel_rfl⟩
    · cases h; exact ⟨bkd_ok, Try.f22, Try.func22, by kernel_rfl, by kernel_rfl⟩
    · cases h; exact ⟨rbk_ok, Try.f23, Try.func23, by kernel_rfl, by kernel_rfl⟩
    · cases h
  · cases h

def lawR : List PSh := [⟨true, shB⟩, ⟨false, [.slice shS]⟩, ⟨false, [.int .i64]⟩]
theorem lawReaches : (lawC lawR).ok Try.prog 6 := by
  refine contract Try.func6 v6_is L2_ok 400 (lawC lawR) fun args k h => ?_
  obtain ⟨ha, hk⟩ := h
  obtain ⟨_, _, rfl, h1, e1⟩ := okPL_cons_inv ha
  obtain ⟨cs, rfl, hcs⟩ := okP_agg_inv h1
  obtain ⟨v, _, rfl, h2, e2⟩ := okPL_cons_inv e1
  obtain ⟨_, _, rfl, h3, e3⟩ := okPL_cons_inv e2
  obtain ⟨i, rfl, _⟩ := okP_one_inv h3
  cases okPL_nil_inv e3
  obtain ⟨z, b, hbl, hbe⟩ := b_of hcs
  obtain ⟨z', l, hll, hle⟩ := list_of (fun _ => s_of) (okP_one_inv h2)
  rw [maxLen_eq] at hbl hll
  refine ⟨[.agg (encB false z b), .vs false z' l.length 4 (fun k => encS (l.getD k default)), .int .i64 i], ⟨leXL_le _ _ hbe (by simp [encB, bndL, bnd]), leX_le _ _ hle trivial, ⟨rfl, rfl⟩, trivial⟩, ?_⟩
  dsimp only [v6, L2_ct10, L2_ct20, L2_ct16, L2_ct17, L2_ct21, L2_ct22, L2_ct23, trueC, farC, samIC, samC, reaC, bkdC, lsR, encB, encT, encS, encI, go_sem, Option.bind, Option.map, List.append_nil, Nat.beq, List.cons_append, List.nil_append, List.append_eq, List.map_cons, List.map_nil, ite_self, reduceIte]
  simp only [true_and, and_true, imp_self, implies_true, decide_eq_true_eq, decide_eq_false_iff_not, Nat.reduceAdd, Nat.reduceLeDiff, Bool.not_not, reduceCtorEq, false_imp_iff, Bool.not_eq_true', Bool.not_eq_false', Bool.false_eq_true, and_self, forall_const, ne_eq, not_false_eq_true, Nat.reduceEqDiff]
  have hk' : k (.bool true) [] := hk
  refine ⟨b, brdP_self b, fun _ => ans_bool hk', fun hf => ?_⟩
  have hlen : l.length ≤ 210 := by
    simp only [farF, Bool.or_eq_false_iff, Bool.and_eq_false_iff, decide_eq_false_iff_not] at hf
    omega
  have hwk : b.wk.length ≤ 20 := by
    simp only [farF, Bool.or_eq_false_iff, Bool.and_eq_false_iff, decide_eq_false_iff_not] at hf
    omega
  have r1 : (reachR b l i).1.length ≤ 1000000000000 := by
    unfold reachR
    split
    · simp
    · split
      · simp
      · exact Nat.le_trans (part_le (fun k => reachF b l (b.wk.getD k default) (l.getD i.toNat default)) b.wk.length) (by omega)
  have r2 : (blockedR b l).1.length ≤ 1000000000000 := by
    unfold blockedR
    split
    · simp
    · exact Nat.le_trans (part_le (fun i => !b.wk.any fun w => reachF b l w (l.getD i default)) l.length) (by omega)
  refine ⟨b, l, ⟨brdP_self b, lsP_self, by omega⟩, by decide, by decide, b, l, ⟨brdP_self b, lsP_self, by omega⟩, by decide, by decide, b, l, ⟨brdP_self b, lsP_self⟩, by decide, by decide, b, l, ⟨brdP_self b, lsP_self⟩, by decide, by decide,
    _, _, ⟨⟨rfl, rfl, fun k _ => leXL_self _⟩, ⟨rfl, rfl, fun k _ => leXL_self _⟩, r1⟩, _, _, fun _ => ⟨⟨rfl, rfl, fun k _ => leXL_self _⟩, ⟨rfl, rfl, fun k _ => leXL_self _⟩, r2⟩, ?_⟩
  rw [decide_eq_true rfl, decide_eq_true rfl, decide_eq_true rfl, decide_eq_true rfl]
  exact ans_bool (by simpa using hk')
end Go.Proofs.Ytojaibhjfeojjaa

/- Layouts in plain Lean: divisions, and which is the best one. -/
set_option linter.all false
namespace Go.Proofs.Ytojaibhjfeojjaa
open Go Go.Vx

/-- A list of numbers is a division of pipes into rows. -/
def dvP (b : Brd) : List Ft → List Nat → Prop
  | l, [] => l = []
  | l, k :: ks => 1 ≤ k ∧ k ≤ l.length ∧ wideG b (-b.c) (l.take k) ≤ b.w ∧ dvP b (l.drop k) ks
/-- Its depth. -/
def dvD (b : Brd) : List Ft → List Nat → Int
  | _, [] => 0
  | l, k :: ks => deepG 0 (l.take k) + dvD b (l.drop k) ks + (if 0 < ks.length then b.c else 0)
/-- The order of lists. -/
def lexLe : List Nat → List Nat → Prop
  | [], _ => True
  | _ :: _, [] => False
  | a :: x, c :: y => a < c ∨ a = c ∧ lexLe x y

theorem head_rows {b : Brd} (hc : 0 ≤ b.c ∧ b.c ≤ 1000000) {l : List Ft} (h2 : l.length ≤ 200) (hl : ∀ f ∈ l, okF f) (hi : (headP b l).is = true) : (0 < (headP b l).rows ↔ 0 < l.length) := by
  rcases Nat.eq_zero_or_pos l.length with h0 | h0
  · have : l = [] := List.eq_nil_of_length_eq_zero h0
    subst this
    rw [plans_nil]; simp
  · obtain ⟨j, hj, _, _, _, e⟩ := head_first hc.1 h0 (fun f hf => (hl f hf).1.1) hi
    have := head_ok hc _ (l.drop (j + 1)) rfl (by rw [List.length_drop]; omega) fun f hf => hl f (List.mem_of_mem_drop hf)
    have e2 : (headP b l).rows = 1 + (headP b (l.drop (j + 1))).rows := by rw [e]; rfl
    omega
theorem div_succ {b : Brd} {n : Nat} {l : List Ft} {j : Nat} (h0 : 0 < l.length) (hf : (headP b l).first = (j : Int) + 1) : divG b (n + 1) l = (j + 1) :: divG b n (l.drop (j + 1)) := by
  rw [divG, if_neg (by omega), hf, show ((j : Int) + 1).toNat = j + 1 by omega]
/-- The number of steps does not matter. -/
theorem div_fuel {b : Brd} (hc : 0 ≤ b.c) : ∀ (n : Nat) (l : List Ft), l.length ≤ n → (∀ f ∈ l, 1 ≤ f.1) → (headP b l).is = true → divG b n l = divL b l := by
  intro n
  induction n using Nat.strongRecOn with
  | ind n ih =>
    intro l hn hl hi
    rcases Nat.eq_zero_or_pos l.length with h0 | h0
    · have : l = [] := List.eq_nil_of_length_eq_zero h0
      subst this
      cases n <;> rfl
    · obtain ⟨j, hj, hf, _, hi2, _⟩ := head_first hc h0 hl hi
      obtain ⟨n, rfl⟩ : ∃ m, n = m + 1 := ⟨n - 1, by omega⟩
      have hl2 : ∀ f ∈ l.drop (j + 1), 1 ≤ f.1 := fun f hf => hl f (List.mem_of_mem_drop hf)
      have hlen : (l.drop (j + 1)).length = l.length - (j + 1) := List.length_drop
      rw [div_succ h0 hf]
      obtain ⟨m, hm⟩ : ∃ m, l.length = m + 1 := ⟨l.length - 1, by omega⟩
      unfold divL
      rw [hm, div_succ h0 hf]
      rw [ih n (by omega) _ (by omega) hl2 hi2]
      rcases Nat.lt_or_ge m (n + 1) with h' | h'
      · rw [ih m h' _ (by omega) hl2 hi2]
      · omega
theorem div_head {b : Brd} (hc : 0 ≤ b.c) {l : List Ft} (h0 : 0 < l.length) (hl : ∀ f ∈ l, 1 ≤ f.1) (hi : (headP b l).is = true) :
    ∃ j, j < l.length ∧ (headP b l).first = (j : Int) + 1 ∧ wideG b (-b.c) (l.take (j + 1)) ≤ b.w ∧ (headP b (l.drop (j + 1))).is = true ∧ headP b l = candF b (deepG 0 (l.take (j + 1))) (headP b (l.drop (j + 1))) j ∧ divL b l = (j + 1) :: divL b (l.drop (j + 1)) := by
  obtain ⟨j, hj, hf, h1, h2, h3⟩ := head_first hc h0 hl hi
  refine ⟨j, hj, hf, h1, h2, h3, ?_⟩
  obtain ⟨m, hm⟩ : ∃ m, l.length = m + 1 := ⟨l.length - 1, by omega⟩
  have hlen : (l.drop (j + 1)).length = l.length - (j + 1) := List.length_drop
  unfold divL
  rw [hm, div_succ h0 hf]
  congr 1
  exact div_fuel hc m _ (by omega) (fun f hf => hl f (List.mem_of_mem_drop hf)) h2
/-- What the plans say is a division. -/
theorem div_is {b : Brd} (hc : 0 ≤ b.c ∧ b.c ≤ 1000000) : ∀ (n : Nat) (l : List Ft), l.length = n → n ≤ 200 → (∀ f ∈ l, okF f) → (headP b l).is = true → dvP b l (divL b l) ∧ dvD b l (divL b l) = (headP b l).depth ∧ ((divL b l).length : Int) = (headP b l).rows := by
  intro n
  induction n using Nat.strongRecOn with
  | ind n ih =>
    intro l hn h2 hl hi
    rcases Nat.eq_zero_or_pos l.length with h0 | h0
    · have : l = [] := List.eq_nil_of_length_eq_zero h0
      subst this
      exact ⟨rfl, rfl, rfl⟩
    · obtain ⟨j, hj, hf, h3, h4, e, ed⟩ := div_head hc.1 h0 (fun f hf => (hl f hf).1.1) hi
      have hl2 : ∀ f ∈ l.drop (j + 1), okF f := fun f hf => hl f (List.mem_of_mem_drop hf)
      have hlen : (l.drop (j + 1)).length = l.length - (j + 1) := List.length_drop
      obtain ⟨i1, i2, i3⟩ := ih _ (by omega) (l.drop (j + 1)) hlen (by omega) hl2 h4
      have hr := head_rows hc (by omega) hl2 h4
      rw [ed]
      refine ⟨⟨by omega, by omega, h3, i1⟩, ?_, ?_⟩
      · show deepG 0 (l.take (j + 1)) + dvD b (l.drop (j + 1)) (divL b (l.drop (j + 1))) + _ = _
        rw [i2, e]
        show _ = deepG 0 (l.take (j + 1)) + (headP b (l.drop (j + 1))).depth + _
        split <;> split <;> omega
      · rw [e, List.length_cons]
        show _ = 1 + (headP b (l.drop (j + 1))).rows
        omega
/-- None is better. -/
theorem div_best {b : Brd} (hc : 0 ≤ b.c ∧ b.c ≤ 1000000) : ∀ (ks : List Nat) (l : List Ft), l.length ≤ 200 → (∀ f ∈ l, okF f) → dvP b l ks →
    (headP b l).is = true ∧ ((headP b l).depth < dvD b l ks ∨ (headP b l).depth = dvD b l ks ∧ ((headP b l).rows < ks.length ∨ (headP b l).rows = ks.length ∧ lexLe (divL b l) ks)) := by
  intro ks
  induction ks with
  | nil =>
    intro l h2 hl hd
    have hd : l = [] := hd
    subst hd
    exact ⟨rfl, .inr ⟨rfl, .inr ⟨rfl, trivial⟩⟩⟩
  | cons k ks ih =>
    intro l h2 hl hd
    obtain ⟨h1, hk, hw, hd⟩ := hd
    obtain ⟨j, rfl⟩ : ∃ j, k = j + 1 := ⟨k - 1, by omega⟩
    have hl2 : ∀ f ∈ l.drop (j + 1), okF f := fun f hf => hl f (List.mem_of_mem_drop hf)
    have hlen : (l.drop (j + 1)).length = l.length - (j + 1) := List.length_drop
    obtain ⟨i1, i2⟩ := ih (l.drop (j + 1)) (by omega) hl2 hd
    have hs := (head_spec hc.1 (by omega : 0 < l.length) fun f hf => (hl f hf).1.1).2 j (by omega) hw i1
    obtain ⟨hi, hle⟩ := hs
    refine ⟨hi, ?_⟩
    have hr := head_rows hc (by omega) hl2 i1
    have hks : 0 < ks.length ↔ 0 < (l.drop (j + 1)).length := by
      cases ks with
      | nil => have hd : l.drop (j + 1) = [] := hd; rw [hd]; simp
      | cons a ks => obtain ⟨h1, h2, _⟩ := hd; rw [List.length_cons]; omega
    obtain ⟨j', hj', hf', _, hi', e', ed'⟩ := div_head hc.1 (by omega : 0 < l.length) (fun f hf => (hl f hf).1.1) hi
    have eD : dvD b l ((j + 1) :: ks) = deepG 0 (l.take (j + 1)) + dvD b (l.drop (j + 1)) ks + (if 0 < ks.length then b.c else 0) := rfl
    have c1 : (candF b (deepG 0 (l.take (j + 1))) (headP b (l.drop (j + 1))) j).depth = deepG 0 (l.take (j + 1)) + (headP b (l.drop (j + 1))).depth + (if 0 < (headP b (l.drop (j + 1))).rows then b.c else 0) := rfl
    have c2 : (candF b (deepG 0 (l.take (j + 1))) (headP b (l.drop (j + 1))) j).rows = 1 + (headP b (l.drop (j + 1))).rows := rfl
    have c3 : (candF b (deepG 0 (l.take (j + 1))) (headP b (l.drop (j + 1))) j).first = (j : Int) + 1 := rfl
    have hif : (if 0 < (headP b (l.drop (j + 1))).rows then b.c else 0) = (if 0 < ks.length then b.c else 0) := by
      by_cases h : 0 < ks.length
      · rw [if_pos h, if_pos (hr.2 (hks.1 h))]
      · rw [if_neg h, if_neg (fun hh => h (hks.2 (hr.1 hh)))]
    rw [hif] at c1
    unfold leP ltP at hle
    rw [c1, c2, c3] at hle
    rw [eD, List.length_cons]
    by_cases hbad : (headP b l).depth = deepG 0 (l.take (j + 1)) + dvD b (l.drop (j + 1)) ks + (if 0 < ks.length then b.c else 0) ∧ (headP b l).rows = ((ks.length + 1 : Nat) : Int)
    · obtain ⟨q1, q2⟩ := hbad
      refine .inr ⟨q1, .inr ⟨q2, ?_⟩⟩
      rw [ed']
      rcases Nat.lt_or_ge j' j with hlt | hge
      · exact .inl (by omega)
      · have hjj : j' = j := by omega
        subst hjj
        refine .inr ⟨rfl, ?_⟩
        have d1 : (headP b l).depth = deepG 0 (l.take (j' + 1)) + (headP b (l.drop (j' + 1))).depth + (if 0 < ks.length then b.c else 0) := by
          rw [← c1]; exact congrArg Plan.depth e'
        have d2 : (headP b l).rows = 1 + (headP b (l.drop (j' + 1))).rows := by
          rw [← c2]; exact congrArg Plan.rows e'
        rcases i2 with i2 | ⟨i2, i3 | ⟨i3, i4⟩⟩
        · omega
        · omega
        · exact i4
    · omega
end Go.Proofs.Ytojaibhjfeojjaa

/- Layouts in plain Lean: fewer pipes are not deeper; how deep a layout is. -/
set_option linter.all false
namespace Go.Proofs.Ytojaibhjfeojjaa
open Go Go.Vx

theorem wideG_w {b c : Brd} (h : c.c = b.c) (l : List Ft) (w : Int) : wideG c w l = wideG b w l := by
  unfold wideG; rw [h]
theorem wideG_app {b : Brd} {w : Int} {l m : List Ft} : wideG b w (l ++ m) = wideG b (wideG b w l) m := by
  unfold wideG; rw [List.foldl_append]
theorem deepG_app {w : Int} {l m : List Ft} : deepG w (l ++ m) = deepG (deepG w l) m := by
  unfold deepG; rw [List.foldl_append]
theorem deepG_le : ∀ (l : List Ft) (m : Int), m ≤ deepG m l
  | [], m => Int.le_refl _
  | f :: l, m => by
    have := deepG_le l (max m (2 * f.1))
    unfold deepG at *
    rw [List.foldl_cons]; omega
theorem dvD_nn {b : Brd} (hc : 0 ≤ b.c) : ∀ (ks : List Nat) (l : List Ft), 0 ≤ dvD b l ks
  | [], _ => Int.le_refl _
  | k :: ks, l => by
    have h1 := deepG_le (l.take k) 0
    have h2 := dvD_nn hc ks (l.drop k)
    unfold dvD
    split <;> omega
theorem take_init {l : List Ft} {k : Nat} (h : k < l.length) : (l.take (l.length - 1)).take k = l.take k := by
  rw [List.take_take, Nat.min_eq_left (by omega)]
theorem drop_init {l : List Ft} {k : Nat} (h : k < l.length) : (l.take (l.length - 1)).drop k = (l.drop k).take ((l.drop k).length - 1) := by
  rw [List.drop_take, List.length_drop, show l.length - 1 - k = l.length - k - 1 by omega]
theorem take_split {l : List Ft} (h : 0 < l.length) : l = l.take (l.length - 1) ++ l.drop (l.length - 1) := (List.take_append_drop _ _).symm
/-- Without the last pipe, on a board that is no narrower. -/
theorem div_init {b c : Brd} (hc : 0 ≤ b.c) (he : c.c = b.c) (hw : b.w ≤ c.w) : ∀ (ks : List Nat) (l : List Ft), 0 < l.length → (∀ f ∈ l, 1 ≤ f.1) → dvP b l ks →
    ∃ ks', dvP c (l.take (l.length - 1)) ks' ∧ dvD c (l.take (l.length - 1)) ks' ≤ dvD b l ks
  | [], l, h0, _, hd => by have hd : l = [] := hd; subst hd; simp at h0
  | k :: ks, l, h0, hl, hd => by
    obtain ⟨h1, hk, hwd, hd⟩ := hd
    have hlen : (l.drop k).length = l.length - k := List.length_drop
    have htl : (l.take (l.length - 1)).length = l.length - 1 := by rw [List.length_take]; omega
    rcases Nat.lt_or_ge k l.length with hlt | hge
    · obtain ⟨ks', i1, i2⟩ := div_init hc he hw ks (l.drop k) (by omega) (fun f hf => hl f (List.mem_of_mem_drop hf)) hd
      refine ⟨k :: ks', ⟨h1, by omega, ?_, ?_⟩, ?_⟩
      · rw [take_init hlt, wideG_w he, he]; omega
      · rw [drop_init hlt]; exact i1
      · unfold dvD
        rw [take_init hlt, drop_init hlt]
        have hks : 0 < ks.length := by
          cases ks with
          | nil => have hd : l.drop k = [] := hd; rw [hd] at hlen; simp at hlen; omega
          | cons a x => simp
        rw [if_pos hks]
        split <;> omega
    · have hkl : k = l.length := by omega
      subst hkl
      rcases Nat.eq_or_lt_of_le h1 with h1 | h1
      · refine ⟨[], ?_, dvD_nn hc _ _⟩
        show l.take (l.length - 1) = []
        exact List.eq_nil_of_length_eq_zero (by omega)
      · refine ⟨[l.length - 1], ⟨by omega, by omega, ?_, ?_⟩, ?_⟩
        · have e := take_split h0
          have h2 : wideG b (-b.c) (l.take l.length) = wideG b (wideG b (-b.c) (l.take (l.length - 1))) (l.drop (l.length - 1)) := by
            rw [List.take_of_length_le (Nat.le_refl _), ← wideG_app, ← e]
          have h3 := wideG_le hc (l.drop (l.length - 1)) (wideG b (-b.c) (l.take (l.length - 1))) fun f hf => hl f (List.mem_of_mem_drop hf)
          rw [List.take_take, Nat.min_self, wideG_w he, he]
          omega
        · show (l.take (l.length - 1)).drop (l.length - 1) = []
          exact List.eq_nil_of_length_eq_zero (by rw [List.length_drop]; omega)
        · unfold dvD
          have e := take_split h0
          have h2 : deepG 0 (l.take l.length) = deepG (deepG 0 (l.take (l.length - 1))) (l.drop (l.length - 1)) := by
            rw [List.take_of_length_le (Nat.le_refl _), ← deepG_app, ← e]
          have h3 := deepG_le (l.drop (l.length - 1)) (deepG 0 (l.take (l.length - 1)))
          have h4 := dvD_nn hc ks (l.drop l.length)
          rw [List.take_take, Nat.min_self]
          show deepG 0 (l.take (l.length - 1)) + 0 + 0 ≤ _
          split <;> omega

/-! ### How deep a layout is -/

def deepL (m : Int) (l : List Std) : Int := l.foldl (fun n p => max n (p.y + p.r)) m
theorem deepL_app {m : Int} {a b : List Std} : deepL m (a ++ b) = deepL (deepL m a) b := by
  unfold deepL; rw [List.foldl_append]
theorem deep_row {b : Brd} {y : Int} : ∀ (l : List Ft) (x m : Int), deepL m (rowF b y l x) = if l.length = 0 then m else max m (y + l.foldl (fun m f => max m f.1) ((l.headD default).1))
  | [], _, _ => rfl
  | f :: l, x, m => by
    rw [rowF, if_neg (by simp)]
    show deepL (max m (y + f.1)) (rowF b y l (x + (2 * f.1 + b.c))) = max m (y + l.foldl (fun m f => max m f.1) (max f.1 f.1))
    rw [deep_row l, Int.max_self]
    have key : ∀ (l : List Ft) (a : Int), a ≤ l.foldl (fun m f => max m f.1) a := by
      intro l
      induction l with
      | nil => intro a; exact Int.le_refl _
      | cons g l ih => intro a; have := ih (max a g.1); rw [List.foldl_cons]; omega
    have key2 : ∀ (l : List Ft) (a a' : Int), l.foldl (fun m f => max m f.1) (max a a') = max a (l.foldl (fun m f => max m f.1) a') := by
      intro l
      induction l with
      | nil => intro a a'; rfl
      | cons g l ih =>
        intro a a'
        rw [List.foldl_cons, List.foldl_cons, ← ih, Int.max_assoc]
    cases l with
    | nil => rfl
    | cons g l =>
      rw [if_neg (by simp)]
      show max (max m (y + f.1)) (y + l.foldl (fun m f => max m f.1) (max g.1 g.1)) = max m (y + l.foldl (fun m f => max m f.1) (max f.1 g.1))
      rw [Int.max_self, key2]
      omega
theorem most_head {l : List Ft} (h : 0 < l.length) (hl : ∀ f ∈ l, 1 ≤ f.1) : l.foldl (fun m f => max m f.1) ((l.headD default).1) = mostF l := by
  cases l with
  | nil => simp at h
  | cons f l =>
    have := hl f List.mem_cons_self
    unfold mostF
    show l.foldl (fun m f => max m f.1) (max f.1 f.1) = l.foldl (fun m f => max m f.1) (max 0 f.1)
    rw [Int.max_self, Int.max_eq_right (by omega)]
theorem deep_most : ∀ (l : List Ft) (m : Int), deepG (2 * m) l = 2 * l.foldl (fun m f => max m f.1) m
  | [], _ => rfl
  | f :: l, m => by
    have := deep_most l (max m f.1)
    unfold deepG at *
    rw [List.foldl_cons, List.foldl_cons, ← this]
    congr 1
    omega
theorem deep_place {b : Brd} (hc : 0 ≤ b.c) : ∀ (ks : List Nat) (l : List Ft) (y m : Int), (∀ f ∈ l, 1 ≤ f.1) → dvP b l ks → deepL m (placeL b ks l y) = if ks.length = 0 then m else max m (y + dvD b l ks)
  | [], _, _, _, _, _ => rfl
  | k :: ks, l, y, m, hl, hd => by
    obtain ⟨h1, hk, hw, hd⟩ := hd
    have htk : (l.take k).length = k := by rw [List.length_take]; omega
    have hlt : ∀ f ∈ l.take k, 1 ≤ f.1 := fun f hf => hl f (List.mem_of_mem_take hf)
    have ih := deep_place hc ks (l.drop k) (y + (2 * mostF (l.take k) + b.c)) (max m (y + mostF (l.take k) + mostF (l.take k))) (fun f hf => hl f (List.mem_of_mem_drop hf)) hd
    rw [placeL, deepL_app, deep_row, if_neg (by omega), most_head (by omega) hlt, ih]
    have e := deep_most (l.take k) 0
    rw [show (2 : Int) * 0 = 0 from rfl] at e
    have h0 := dvD_nn hc ks (l.drop k)
    have e2 : dvD b l (k :: ks) = 2 * mostF (l.take k) + dvD b (l.drop k) ks + (if 0 < ks.length then b.c else 0) := by
      rw [dvD, e]; rfl
    rw [e2, if_neg (show ¬ (k :: ks).length = 0 by simp)]
    cases ks with
    | nil =>
      show max m (y + mostF (l.take k) + mostF (l.take k)) = max m (y + (2 * mostF (l.take k) + 0 + 0))
      omega
    | cons a ks =>
      rw [if_neg (show ¬ (a :: ks).length = 0 by simp), if_pos (show 0 < (a :: ks).length by simp)]
      omega
end Go.Proofs.Ytojaibhjfeojjaa

