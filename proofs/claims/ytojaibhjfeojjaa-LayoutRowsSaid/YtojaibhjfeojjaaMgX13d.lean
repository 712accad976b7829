/- Layouts, walked: rows. -/
import Derived.Test.YtojaibhjfeojjaaMgX13c
import Derived.Test.YtojaibhjfeojjaaProg
/- Layouts, walked: rows. -/
set_option linter.all false
namespace Go.Proofs.Ytojaibhjfeojjaa
open Go Go.Vx
set_option maxRecDepth 100000
set_option maxHeartbeats 4000000

def v36 : VF := { ntmps := 81, res := [.cell 8 true 4], body :=
 (.seq (.region [u1 4 .box [.tm 0],
 u1 8 (.alloc [(.int .i64 0), (.int .i64 0), (.int .i64 0), (.bool false)]) []])
 (.seq (.region [u1 16 (.mkfn (.func 60) 0) [.tm 8],
 u1 9 .mov [.tm 16]])
 (.seq (.region [u1 17 (.fieldAddr 2) [.tm 4],
 u1 18 (.load false 1) [.tm 17],
 u1 19 .neg [.tm 18],
 u1 10 .mov [.tm 19],
 u1 11 .mov [.cn (.int .i64 0)]])
 (.seq (.seq (.region [u1 20 .mov [.tm 1],
 u1 21 .mov [.tm 3],
 u1 22 (.slice 2 true false) [.tm 20, .tm 21],
 u1 23 .len [.tm 22],
 u1 24 .mov [.cn (.int .i64 0)]])
 (.block 0 (.loop (.seq (.region [u1 25 (.cmp .lss) [.tm 24, .tm 23]])
 (.seq (.cond (.tm 25) .skip
  (.exit 0))
 (.seq (.block 1 (.seq (.region [u1 26 .mov [.tm 24],
 u1 27 (.idxAddr 2) [.tm 22, .tm 24],
 u1 28 (.load true 2) [.tm 27],
 u1 13 (.alloc [(.int .i64 0), (.int .i64 0)]) [],
 u1 12 .mov [.tm 26],
 u0 (.store 2) [.tm 13, .tm 28]])
 (.seq (.region [u1 29 .mov [.tm 10],
 u1 30 (.fieldAddr 2) [.tm 4],
 u1 31 (.load false 1) [.tm 30],
 u1 32 (.fieldAddr 0) [.tm 13],
 u1 33 (.load false 1) [.tm 32],
 u1 34 (.ari .mul) [.cn (.int .i64 2), .tm 33],
 u1 35 (.ari .add) [.tm 31, .tm 34],
 u1 36 (.ari .add) [.tm 29, .tm 35],
 u1 10 .mov [.tm 36]])
 (.seq (.region [u1 37 .mov [.tm 11],
 u1 38 (.fieldAddr 0) [.tm 13],
 u1 39 (.load false 1) [.tm 38],
 u1 40 (.ari .mul) [.cn (.int .i64 2), .tm 39],
 u1 41 .max [.tm 37, .tm 40],
 u1 11 .mov [.tm 41]])
 (.seq (.seq (.region [u1 42 .mov [.tm 10],
 u1 43 (.fieldAddr 0) [.tm 4],
 u1 44 (.load false 1) [.tm 43],
 u1 45 (.cmp .gtr) [.tm 42, .tm 44]])
 (.cond (.tm 45) (.exit 0)
  .skip))
 (.seq (.region [u1 46 .mov [.tm 2],
 u1 47 .mov [.tm 3],
 u1 48 .mov [.tm 12],
 u1 49 (.ari .add) [.tm 47, .tm 48],
 u1 50 (.ari .add) [.tm 49, .cn (.int .i64 1)],
 u1 51 (.idxAddr 4) [.tm 46, .tm 50],
 u1 52 (.load true 4) [.tm 51],
 u1 14 (.alloc [(.int .i64 0), (.int .i64 0), (.int .i64 0), (.bool false)]) [],
 u0 (.store 4) [.tm 14, .tm 52]])
 (.seq (.seq (.region [u1 53 (.fieldAddr 3) [.tm 14],
 u1 54 (.load false 1) [.tm 53],
 u1 55 .not [.tm 54]])
 (.cond (.tm 55) (.exit 1)
  .skip))
 (.seq (.region [u1 56 .mov [.tm 11],
 u1 57 (.fieldAddr 0) [.tm 14],
 u1 58 (.load false 1) [.tm 57],
 u1 59 (.ari .add) [.tm 56, .tm 58],
 u1 60 (.fieldAddr 1) [.tm 14],
 u1 61 (.load false 1) [.tm 60],
 u1 62 (.ari .add) [.cn (.int .i64 1), .tm 61],
 u1 63 .mov [.tm 12],
 u1 64 (.ari .add) [.tm 63, .cn (.int .i64 1)],
 u1 65 (.build [(.int .i64 0), (.int .i64 0), (.int .i64 0), (.bool false)] [(0, 1), (1, 1), (2, 1), (3, 1)]) [.tm 59, .tm 62, .tm 64, .cn (.bool true)],
 u1 15 (.alloc [(.int .i64 0), (.int .i64 0), (.int .i64 0), (.bool false)]) [],
 u0 (.store 4) [.tm 15, .tm 65]])
 (.seq (.seq (.region [u1 66 (.fieldAddr 1) [.tm 14],
 u1 67 (.load false 1) [.tm 66],
 u1 68 (.cmp .gtr) [.tm 67, .cn (.int .i64 0)]])
 (.cond (.tm 68) (.region [u1 69 (.fieldAddr 0) [.tm 15],
 u1 70 (.load false 1) [.tm 69],
 u1 71 (.fieldAddr 2) [.tm 4],
 u1 72 (.load false 1) [.tm 71],
 u1 73 (.ari .add) [.tm 70, .tm 72],
 u1 74 (.fieldAddr 0) [.tm 15],
 u0 (.store 1) [.tm 74, .tm 73]])
  .skip))
 (.seq (.region [u1 75 .mov [.tm 9],
 u1 76 (.load true 4) [.tm 15],
 u1 77 .callv [.tm 75, .tm 76]])
 (.cond (.tm 77) (.region [u1 78 (.load true 4) [.tm 15],
 u0 (.store 4) [.tm 8, .tm 78]])
  .skip)))))))))))
 (.region [u1 79 (.ari .add) [.tm 24, .cn (.int .i64 1)],
 u1 24 .mov [.tm 79]])))))))
 (.seq (.region [u1 80 (.load true 4) [.tm 8],
 u0 (.store 4) [.tm 8, .tm 80]])
 .ret))))) }
theorem v36_is : vfunc Try.prog Try.f36 = some v36 := by kernel_rfl
def v60 : VF := { ntmps := 28, res := [.tmp 3], body :=
 (.seq (.region [u1 2 .box [.tm 0],
 u1 3 .mov [.cn (.bool false)]])
 (.seq (.region [u1 4 (.fieldAddr 3) [.tm 1],
 u1 5 (.load false 1) [.tm 4],
 u1 6 .not [.tm 5],
 u1 7 .mov [.tm 6],
 u2 8 7 false (.fieldAddr 0) [.tm 2],
 u2 9 7 false (.load false 1) [.tm 8],
 u2 10 7 false (.fieldAddr 0) [.tm 1],
 u2 11 7 false (.load false 1) [.tm 10],
 u2 12 7 false (.cmp .lss) [.tm 9, .tm 11],
 u1 13 .or [.tm 7, .tm 12],
 u1 14 .mov [.tm 13],
 u2 15 14 false (.fieldAddr 0) [.tm 2],
 u2 16 14 false (.load false 1) [.tm 15],
 u2 17 14 false (.fieldAddr 0) [.tm 1],
 u2 18 14 false (.load false 1) [.tm 17],
 u2 19 14 false (.cmp .eql) [.tm 16, .tm 18],
 u2 20 14 false .mov [.tm 19],
 u2 21 20 true (.fieldAddr 1) [.tm 2],
 u2 22 20 true (.load false 1) [.tm 21],
 u2 23 20 true (.fieldAddr 1) [.tm 1],
 u2 24 20 true (.load false 1) [.tm 23],
 u2 25 20 true (.cmp .lss) [.tm 22, .tm 24],
 u2 26 14 false .and [.tm 20, .tm 25],
 u1 27 .or [.tm 14, .tm 26],
 u1 3 .mov [.tm 27]])
 .ret)) }
theorem v60_is : vfunc Try.prog Try.f60 = some v60 := by kernel_rfl
def v37 : VF := { ntmps := 33, res := [.cell 4 true 2], body :=
 (.seq (.region [u1 4 (.alloc [(.int .i64 0), (.int .i64 0)]) []])
 (.seq (.seq (.region [u1 7 .mov [.tm 0],
 u1 8 .len [.tm 7],
 u1 9 (.cmp .lss) [.tm 8, .cn (.int .i64 1)]])
 (.cond (.tm 9) .stuck
  .skip))
 (.seq (.region [u1 11 .mov [.tm 0],
 u1 12 (.idxAddr 2) [.tm 11, .cn (.int .i64 0)],
 u1 13 (.load true 2) [.tm 12],
 u1 5 (.alloc [(.int .i64 0), (.int .i64 0)]) [],
 u0 (.store 2) [.tm 5, .tm 13]])
 (.seq (.seq (.region [u1 6 .mov [.cn (.int .i64 1)]])
 (.block 0 (.loop (.seq (.seq (.region [u1 14 .mov [.tm 6],
 u1 15 .mov [.tm 0],
 u1 16 .len [.tm 15],
 u1 17 (.cmp .lss) [.tm 14, .tm 16]])
 (.cond (.tm 17) .skip
  (.exit 0)))
 (.seq (.block 1 (.seq (.draw [] [w1 20 .mov [.tm 1],
 w1 21 .mov [.tm 0],
 w1 22 .mov [.tm 6],
 w1 23 (.idxAddr 2) [.tm 21, .tm 22],
 w1 24 (.load true 2) [.tm 23],
 w1 25 (.load true 2) [.tm 5],
 w1 26 .callv [.tm 20, .tm 24, .tm 25],
 w1 27 (.cmp .gtr) [.tm 26, .cn (.int .i64 0)]])
 (.cond (.tm 27) (.region [u1 28 .mov [.tm 0],
 u1 29 .mov [.tm 6],
 u1 30 (.idxAddr 2) [.tm 28, .tm 29],
 u1 31 (.load true 2) [.tm 30],
 u0 (.store 2) [.tm 5, .tm 31]])
  .skip)))
 (.region [u1 18 .mov [.tm 6],
 u1 19 (.ari .add) [.tm 18, .cn (.int .i64 1)],
 u1 6 .mov [.tm 19]]))))))
 (.seq (.region [u1 32 (.load true 2) [.tm 5],
 u0 (.store 2) [.tm 4, .tm 32]])
 .ret))))) }
theorem v37_is : vfunc Try.prog Try.f37 = some v37 := by kernel_rfl
def v38 : VF := { ntmps := 10, res := [.tmp 4], body :=
 (.seq (.region [u1 2 .box [.tm 0],
 u1 3 .box [.tm 1],
 u1 4 .mov [.cn (.int .i64 0)]])
 (.seq (.region [u1 5 (.fieldAddr 0) [.tm 2],
 u1 6 (.load false 1) [.tm 5],
 u1 7 (.fieldAddr 0) [.tm 3],
 u1 8 (.load false 1) [.tm 7],
 u1 9 (.ari .sub) [.tm 6, .tm 8],
 u1 4 .mov [.tm 9]])
 .ret)) }
theorem v38_is : vfunc Try.prog Try.f38 = some v38 := by kernel_rfl


def encP (p : Plan) : List SV := [.int .i64 p.depth, .int .i64 p.rows, .int .i64 p.first, .bool p.is]

/-! ### The greatest radius -/

def r1C : Ctr := { alias := false, of := fun l => match l with
  | [.agg [.int .i64 a, .int .i64 b], .agg [.int .i64 c, .int .i64 d]] => .pre ((1 ≤ a ∧ a ≤ 1000000) ∧ 1 ≤ c ∧ c ≤ 1000000) (.fin (.int .i64 (a - c)) [])
  | _ => noC }
def I0 : Env := { ct := fun _ => none, fn := fun _ => none, meth := fun _ _ => none }
theorem I0_ok : EnvOk Try.prog I0 := by
  refine ⟨fun f c h => ?_, fun f vf h => ?_, (fun _ _ _ h => by cases h), by kernel_rfl⟩
  · cases h
  · cases h

theorem r1_ok : r1C.ok Try.prog 38 := by
  refine contract Try.func38 v38_is I0_ok 200 r1C fun args k h => ⟨args, ?_⟩
  simp only [r1C] at h
  split at h
  · rename_i a b c d
    refine ⟨by simp [leL, le], ?_⟩
    obtain ⟨⟨ha, hc⟩, h⟩ := h
    dsimp only [v38, go_sem, Option.bind, Option.map, List.append_nil, Nat.beq, List.cons_append, List.nil_append, List.append_eq, List.map_cons, List.map_nil, ite_self, reduceIte]
    simp only [true_and, and_true, imp_self, implies_true, decide_eq_true_eq, decide_eq_false_iff_not, Nat.reduceAdd, Nat.reduceLeDiff, Bool.not_not, reduceCtorEq, false_imp_iff, Bool.not_eq_true', Bool.not_eq_false', Bool.false_eq_true, and_self, forall_const, ne_eq, not_false_eq_true, Nat.reduceEqDiff]
    rw [mid_w (by omega)]
    exact ans_int h
  · exact h.1.elim
/-- The first pipe of the greatest radius. -/
def maxG (l : List Ft) : Ft := l.foldl (fun m f => if m.1 < f.1 then f else m) (l.headD default)
def mxC : Ctr := { alias := false, of := fun l => match l with
  | [.vs _ _ n sz get, .fn (.func g) [] []] => .ex (List Ft) fun l => .pre (lsP 2 encT n sz get l ∧ 0 < l.length ∧ l.length ≤ 1000000 ∧ g = 38 ∧ ∀ f ∈ l, okF f) (.fin (.agg (encT (maxG l))) [])
  | _ => noC }
def I1 : Env := { ct := fun n => match n with | 38 => some r1C | _ => none, fn := fun _ => none, meth := fun _ _ => none }
theorem I1_ct38 : I1.ct 38 = some r1C := rfl
theorem I1_ok : EnvOk Try.prog I1 := by
  refine ⟨fun f c h => ?_, fun f vf h => ?_, (fun _ _ _ h => by cases h), by kernel_rfl⟩
  · simp only [I1] at h
    split at h
    · cases h; exact ⟨r1_ok, Try.f38, Try.func38, by kernel_rfl, by kernel_rfl⟩
    · cases h
  · cases h

theorem maxG_mem (l : List Ft) (i : Nat) (m : Ft) (hm : okF m) (h : ∀ f ∈ l, okF f) : okF ((l.take i).foldl (fun m f => if m.1 < f.1 then f else m) m) := by
  induction i with
  | zero => exact hm
  | succ i ih =>
    rcases Nat.lt_or_ge i l.length with h' | h'
    · rw [foldl_take_succ h']
      split
      · exact h _ (getD_mem h')
      · exact ih
    · rw [take_full (by omega)]; rw [take_full h'] at ih; exact ih
theorem mx_ok : mxC.ok Try.prog 37 := by
  refine contract Try.func37 v37_is I1_ok 200 mxC fun args k h => ?_
  simp only [mxC] at h
  split at h
  · rename_i t z n sz get g
    obtain ⟨l, ⟨⟨rfl, rfl, hg⟩, h0, hmax, rfl, hall⟩, h⟩ := h
    refine ⟨[.vs t z l.length 2 (fun k => encT (l.getD k default)), .fn (.func 38) [] []], ⟨by simpa [le] using hg, by simp [le_fn, bndL, bnd], trivial⟩, ?_⟩
    have h : k (.agg (encT (maxG l))) [] := h
    dsimp only [v37, encT, go_sem, Option.bind, Option.map, List.append_nil, Nat.beq, List.cons_append, List.nil_append, List.append_eq, List.map_cons, List.map_nil, ite_self, reduceIte]
    simp only [true_and, and_true, imp_self, implies_true, decide_eq_true_eq, decide_eq_false_iff_not, Nat.reduceAdd, Nat.reduceLeDiff, Bool.not_not, reduceCtorEq, false_imp_iff, Bool.not_eq_true', Bool.not_eq_false', Bool.false_eq_true, and_self, forall_const, ne_eq, not_false_eq_true, Nat.reduceEqDiff]
    have hhd : l.headD default = l.getD 0 default := by cases l <;> rfl
    have hm0 : okF (l.headD default) := by rw [hhd]; exact hall _ (getD_mem h0)
    obtain ⟨M, hM⟩ : ∃ M : Nat → Ft, M = fun i => (l.take i).foldl (fun m f => if m.1 < f.1 then f else m) (l.headD default) := ⟨_, rfl⟩
    have hMok : ∀ i, okF (M i) := fun i => by rw [hM]; exact maxG_mem l i _ hm0 hall
    have hM1 : M 1 = l.getD 0 default := by
      rw [hM]; dsimp only
      rw [foldl_take_succ (i := 0) h0, List.take_zero, List.foldl_nil, hhd, if_neg (by omega)]
    have hMl : M l.length = maxG l := by rw [hM]; dsimp only; rw [List.take_length]; rfl
    have hMs : ∀ i, i < l.length → M (i + 1) = if (M i).1 < (l.getD i default).1 then l.getD i default else M i := fun i hi => by rw [hM]; exact foldl_take_succ hi
    clear hM
    refine ⟨fun hh => by omega, fun _ => ⟨⟨by decide, by omega⟩, ?_⟩⟩
    refine Loop.keep [0, 0, 2, 0, 0] Nat (fun i => [(6, .int .i64 i)]) (fun i => [(1, .box (encT (M i)))]) [] (fun i => 1 ≤ i ∧ i ≤ l.length) (fun i => l.length - i) ?_ ?_
    · refine ⟨1, ⟨by omega, by omega⟩, ?_⟩
      rw [hM1]
      dsimp only [encT, go_sem, Option.bind, Option.map, List.append_nil, Nat.beq, List.cons_append, List.nil_append, List.append_eq, List.map_cons, List.map_nil, ite_self, reduceIte]
      simp only [leS_mk, leL_cons, leL_nil, le_junk, le_int, le_bool, le_nil, leLL_nil, leLL_cons, leH_cons, leH_nil, leH1_box, leH1_own, leH1_gone, le_vs, le_agg, le_tup, le_ptr, le_own, le_xp, le_fn, le_opt, le_val, le_elem, le_nil_own, le_nil_vs, leH_ghost, leL_chunk, leXL_id, bnd_int, bnd_bool, bnd_val, bnd_nil, bnd_junk, bnd_vs, bnd_xp, bnd_agg, bnd_tup, bnd_ptr, bnd_own, bnd_elem, bnd_fn, bnd_iface, bnd_opt, bndL_nil, bndL_cons, lenH_cons, lenH_nil, imp_self, implies_true, true_and, and_true]
      simp
    · rintro i ⟨hi1, hi⟩
      dsimp only [I1_ct38, r1C, encT, Int.toNat_natCast, go_sem, Option.bind, Option.map, List.append_nil, Nat.beq, List.cons_append, List.nil_append, List.append_eq, List.map_cons, List.map_nil, ite_self, reduceIte]
      simp only [true_and, and_true, imp_self, implies_true, decide_eq_true_eq, decide_eq_false_iff_not, Nat.reduceAdd, Nat.reduceLeDiff, Bool.not_not, reduceCtorEq, false_imp_iff, Bool.not_eq_true', Bool.not_eq_false', Bool.false_eq_true, and_self, forall_const, ne_eq, not_false_eq_true, Nat.reduceEqDiff]
      refine ⟨fun hlt => ⟨⟨by omega, hlt⟩, ⟨(hall _ (getD_mem (by omega))).1, (hMok i).1⟩, fun hb => ⟨⟨by omega, hlt⟩, i + 1, ⟨by omega, by omega⟩, by omega, ?_⟩, fun hb => ⟨i + 1, ⟨by omega, by omega⟩, by omega, ?_⟩⟩, fun hge => ?_⟩
      · rw [hMs i (by omega), if_pos (by omega)]
        simp only [w_succ (i := i) (n := l.length) (by omega) (by omega), leS_mk, leL_cons, leL_nil, le_junk, le_int, le_bool, le_nil, leLL_nil, leLL_cons, leH_cons, leH_nil, leH1_box, leH1_own, leH1_gone, le_vs, le_agg, le_tup, le_ptr, le_own, le_xp, le_fn, le_opt, le_val, le_elem, le_nil_own, le_nil_vs, leH_ghost, leL_chunk, leXL_id, bnd_int, bnd_bool, bnd_val, bnd_nil, bnd_junk, bnd_vs, bnd_xp, bnd_agg, bnd_tup, bnd_ptr, bnd_own, bnd_elem, bnd_fn, bnd_iface, bnd_opt, bndL_nil, bndL_cons, lenH_cons, lenH_nil, imp_self, implies_true, true_and, and_true] <;> simp
      · rw [hMs i (by omega), if_neg (by omega)]
        simp only [w_succ (i := i) (n := l.length) (by omega) (by omega), leS_mk, leL_cons, leL_nil, le_junk, le_int, le_bool, le_nil, leLL_nil, leLL_cons, leH_cons, leH_nil, leH1_box, leH1_own, leH1_gone, le_vs, le_agg, le_tup, le_ptr, le_own, le_xp, le_fn, le_opt, le_val, le_elem, le_nil_own, le_nil_vs, leH_ghost, leL_chunk, leXL_id, bnd_int, bnd_bool, bnd_val, bnd_nil, bnd_junk, bnd_vs, bnd_xp, bnd_agg, bnd_tup, bnd_ptr, bnd_own, bnd_elem, bnd_fn, bnd_iface, bnd_opt, bndL_nil, bndL_cons, lenH_cons, lenH_nil, imp_self, implies_true, true_and, and_true] <;> simp
      · obtain rfl : i = l.length := by omega
        rw [hMl]
        exact ans_a2 h
  · exact h.1.elim

/-! ### The best first row -/

def btC : Ctr := { alias := false, of := fun l => match l with
  | [.agg [.int .i64 a, .int .i64 b, .int .i64 c, .bool d], .xp _ [.int .i64 e, .int .i64 f, .int .i64 g, .bool i]] => .fin (.bool (betterF ⟨a, b, c, d⟩ ⟨e, f, g, i⟩)) []
  | _ => noC }
def I2 : Env := { ct := fun _ => none, fn := fun _ => none, meth := fun _ _ => none }
theorem I2_ok : EnvOk Try.prog I2 := by
  refine ⟨fun f c h => ?_, fun f vf h => ?_, (fun _ _ _ h => by cases h), by kernel_rfl⟩
  · cases h
  · cases h

theorem bt_ok : btC.ok Try.prog 60 := by
  refine contract Try.func60 v60_is I2_ok 200 btC fun args k h => ⟨args, ?_⟩
  simp only [btC] at h
  split at h
  · rename_i a b c d t e f g i
    refine ⟨leL_self _ ⟨⟨trivial, trivial, trivial, trivial, trivial⟩, trivial, trivial⟩, ?_⟩
    have h : k (.bool (betterF ⟨a, b, c, d⟩ ⟨e, f, g, i⟩)) [] := h
    dsimp only [v60, go_sem, Option.bind, Option.map, List.append_nil, Nat.beq, List.cons_append, List.nil_append, List.append_eq, List.map_cons, List.map_nil, ite_self, reduceIte]
    simp only [true_and, and_true, imp_self, implies_true, decide_eq_true_eq, decide_eq_false_iff_not, Nat.reduceAdd, Nat.reduceLeDiff, Bool.not_not, reduceCtorEq, false_imp_iff, Bool.not_eq_true', Bool.not_eq_false', Bool.false_eq_true, and_self, forall_const, ne_eq, not_false_eq_true, Nat.reduceEqDiff]
    unfold betterF at h
    exact ⟨fun x y => by rw [x, decide_eq_true y]; rfl, ans_bool h⟩
  · exact h.1.elim

def besC : Ctr := { alias := false, of := fun l => match l with
  | [.agg [.int .i64 w, .int .i64 d, .int .i64 c, .int .i64 a, .int .i64 s, .vs _ _ n sz get], .vs _ _ n' sz' get', .vs _ _ n2 sz2 get2, .int .i64 i] => .ex Brd fun b => .ex (List Ft) fun l => .ex (List Plan) fun pl => .pre (brdP b w d c a s n sz get ∧ lsP 2 encT n' sz' get' l ∧ lsP 4 encP n2 sz2 get2 pl ∧ (0 ≤ i ∧ i < l.length) ∧ pl.length = l.length + 1 ∧ okB b ∧ (∀ f ∈ l, okF f) ∧ l.length ≤ 200 ∧ ∀ p ∈ pl, okPl p) (.fin (.agg (encP (bestF b (l.drop i.toNat) (pl.drop (i.toNat + 1))))) [])
  | _ => noC }
theorem drop_cons' {α : Type} [Inhabited α] {l : List α} {k : Nat} (h : k < l.length) : l.drop k = l.getD k default :: l.drop (k + 1) := by
  rw [List.getD_eq_getElem?_getD, List.getElem?_eq_getElem h]
  exact List.drop_eq_getElem_cons h
theorem headD_drop {α : Type} [Inhabited α] {l : List α} {k : Nat} : (l.drop k).headD default = l.getD k default := by
  rcases Nat.lt_or_ge k l.length with h | h
  · rw [drop_cons' h]; rfl
  · rw [List.drop_of_length_le h, List.getD_eq_getElem?_getD, List.getElem?_eq_none h]; rfl
theorem best_step {b : Brd} {l : List Ft} {ps : List Plan} {wide deep : Int} {k : Nat} {out : Plan} (h : k < l.length) :
    bestG b (l.drop k) (ps.drop k) wide deep k out = if b.w < wide + (b.c + 2 * (l.getD k default).1) then out else
      bestG b (l.drop (k + 1)) (ps.drop (k + 1)) (wide + (b.c + 2 * (l.getD k default).1)) (max deep (2 * (l.getD k default).1)) (k + 1)
        (if (ps.getD k default).is = false then out else if betterF (candF b (max deep (2 * (l.getD k default).1)) (ps.getD k default) k) out then candF b (max deep (2 * (l.getD k default).1)) (ps.getD k default) k else out) := by
  rw [drop_cons' h, bestG, headD_drop, List.tail_drop]
theorem subLo_eq (n k : Nat) : subLo n k = n - k := by cases k <;> rfl
theorem getD_drop {α : Type} [Inhabited α] {l : List α} {i k : Nat} : (l.drop i).getD k default = l.getD (i + k) default := by
  rw [List.getD_eq_getElem?_getD, List.getElem?_drop, ← List.getD_eq_getElem?_getD]
def I3 : Env := { ct := fun n => match n with | 60 => some btC | _ => none, fn := fun _ => none, meth := fun _ _ => none }
theorem I3_ct60 : I3.ct 60 = some btC := rfl
theorem I3_ok : EnvOk Try.prog I3 := by
  refine ⟨fun f c h => ?_, fun f vf h => ?_, (fun _ _ _ h => by cases h), by kernel_rfl⟩
  · simp only [I3] at h
    split at h
    · cases h; exact ⟨bt_ok, Try.f60, Try.func60, by kernel_rfl, by kernel_rfl⟩
    · cases h
  · cases h

theorem ans_pl {k : SV → List HO → Prop} {al : Bool} {hp : List HO} {p : Plan} (h : k (.agg (encP p)) []) : answers al k (.agg [.int .i64 p.depth, .int .i64 p.rows, .int .i64 p.first, .bool p.is]) hp :=
  ans_le (show k _ [] from h) (le_self (.agg (encP p)) ⟨trivial, trivial, trivial, trivial, trivial⟩) (fun _ => by simp [encP, freshS, freshL])
theorem bes_ok : besC.ok Try.prog 36 := by
  refine contract Try.func36 v36_is I3_ok 400 besC fun args k h => ?_
  simp only [besC] at h
  split at h
  · rename_i w d c a s t z n sz get t' z' n' sz' get' t2 z2 n2 sz2 get2 i
    obtain ⟨b, l, pl, ⟨hbp, ⟨rfl, rfl, hg⟩, ⟨rfl, rfl, hg2⟩, ⟨hi0, hi1⟩, hpl, hb, hl, hlen, hps⟩, h⟩ := h
    obtain ⟨i, rfl⟩ := Int.eq_ofNat_of_zero_le hi0
    simp only [Int.toNat_natCast] at h
    refine ⟨[.agg (encB t z b), .vs t' z' l.length 2 (fun k => encT (l.getD k default)), .vs t2 z2 pl.length 4 (fun k => encP (pl.getD k default)), .int .i64 i], ⟨brd_le hbp, by simpa [le] using hg, by simpa [le] using hg2, ⟨rfl, rfl⟩, trivial⟩, ?_⟩
    have h : k (.agg (encP (bestF b (l.drop i) (pl.drop (i + 1))))) [] := h
    dsimp only [v36, encB, encT, encS, Int.toNat_natCast, go_sem, Option.bind, Option.map, List.append_nil, Nat.beq, List.cons_append, List.nil_append, List.append_eq, List.map_cons, List.map_nil, ite_self, reduceIte]
    simp only [true_and, and_true, imp_self, implies_true, decide_eq_true_eq, decide_eq_false_iff_not, Nat.reduceAdd, Nat.reduceLeDiff, Bool.not_not, reduceCtorEq, false_imp_iff, Bool.not_eq_true', Bool.not_eq_false', Bool.false_eq_true, and_self, forall_const, ne_eq, not_false_eq_true, Nat.reduceEqDiff]
    have hb' := hb
    obtain ⟨⟨w1, w2⟩, _, ⟨c1, c2⟩, _⟩ := hb'
    have hn : IntKind.i64.wrap (0 - b.c) = -b.c := by rw [mid_w (by omega)]; omega
    refine ⟨⟨by omega, by omega⟩, ?_⟩
    rw [hn]
    have hsl : IntKind.i64.wrap 0 = 0 := mid_w (by omega)
    refine Loop.keep [2, 0, 0, 3, 0, 0, 0, 10, 0, 0] (Nat × Int × Int × Plan) (fun x => [(10, .int .i64 x.2.1), (11, .int .i64 x.2.2.1), (24, .int .i64 x.1)]) (fun x => [(1, .box (encP x.2.2.2))]) [] (fun x => x.1 ≤ l.length - i ∧ (-1000000 ≤ x.2.1 ∧ x.2.1 ≤ 3000000 * x.1) ∧ (0 ≤ x.2.2.1 ∧ x.2.2.1 ≤ 2000000) ∧ bestG b ((l.drop i).drop x.1) ((pl.drop (i + 1)).drop x.1) x.2.1 x.2.2.1 x.1 x.2.2.2 = bestF b (l.drop i) (pl.drop (i + 1))) (fun x => l.length - i - x.1) ?_ ?_
    · refine ⟨(0, -b.c, 0, ⟨0, 0, 0, false⟩), ⟨Nat.zero_le _, ⟨by dsimp only; omega, by dsimp only; omega⟩, ⟨Int.le_refl _, by dsimp only; omega⟩, rfl⟩, ?_⟩
      dsimp only [encP, go_sem, Option.bind, Option.map, List.append_nil, Nat.beq, List.cons_append, List.nil_append, List.append_eq, List.map_cons, List.map_nil, ite_self, reduceIte]
      simp only [leS_mk, leL_cons, leL_nil, le_junk, le_int, le_bool, le_nil, leLL_nil, leLL_cons, leH_cons, leH_nil, leH1_box, leH1_own, leH1_gone, le_vs, le_agg, le_tup, le_ptr, le_own, le_xp, le_fn, le_opt, le_val, le_elem, le_nil_own, le_nil_vs, leH_ghost, leL_chunk, leXL_id, bnd_int, bnd_bool, bnd_val, bnd_nil, bnd_junk, bnd_vs, bnd_xp, bnd_agg, bnd_tup, bnd_ptr, bnd_own, bnd_elem, bnd_fn, bnd_iface, bnd_opt, bndL_nil, bndL_cons, lenH_cons, lenH_nil, imp_self, implies_true, true_and, and_true]
      exact ⟨by omega, by omega, by omega, rfl⟩
    · rintro ⟨j, wide, deep, out⟩ ⟨hj, ⟨hw1, hw2⟩, ⟨hd1, hd2⟩, hbest⟩
      dsimp only at hj hw1 hw2 hd1 hd2 hbest
      dsimp only [I3_ct60, btC, encT, encP, Int.toNat_natCast, go_sem, Option.bind, Option.map, List.append_nil, Nat.beq, List.cons_append, List.nil_append, List.append_eq, List.map_cons, List.map_nil, ite_self, reduceIte]
      simp only [true_and, and_true, imp_self, implies_true, decide_eq_true_eq, decide_eq_false_iff_not, Nat.reduceAdd, Nat.reduceLeDiff, Bool.not_not, reduceCtorEq, false_imp_iff, Bool.not_eq_true', Bool.not_eq_false', Bool.false_eq_true, and_self, forall_const, ne_eq, not_false_eq_true, Nat.reduceEqDiff]
      simp only [subLo_eq, addLo_eq]
      refine ⟨fun hlt => ?_, fun hge => ?_⟩
      · have hj' : j < (l.drop i).length := by rw [List.length_drop]; omega
        have hf : okF (l.getD (i + j) default) := hl _ (getD_mem (by omega))
        have hr : okPl (pl.getD (i + j + 1) default) := hps _ (getD_mem (by omega))
        rw [best_step hj', getD_drop, getD_drop, show i + 1 + j = i + j + 1 by omega] at hbest
        have e3 : IntKind.i64.wrap (IntKind.i64.wrap ((i : Int) + (j : Int)) + 1) = ((i + j + 1 : Nat) : Int) := by
          rw [mid_w (x := (i : Int) + j) (by omega), mid_w (by omega)]; omega
        have ej : IntKind.i64.wrap ((j : Int) + 1) = ((j + 1 : Nat) : Int) := by rw [mid_w (by omega)]; omega
        simp only [e3, ej, Int.toNat_natCast]
        generalize l.getD (i + j) default = f at *
        generalize pl.getD (i + j + 1) default = r at *
        obtain ⟨⟨f1, f2⟩, _⟩ := hf
        obtain ⟨⟨r1, r2⟩, ⟨r3, r4⟩, _⟩ := hr
        have e2 : IntKind.i64.wrap (2 * f.1) = 2 * f.1 := mid_w (by omega)
        have e1 : IntKind.i64.wrap (wide + IntKind.i64.wrap (b.c + 2 * f.1)) = wide + (b.c + 2 * f.1) := by
          rw [mid_w (x := b.c + 2 * f.1) (by omega), mid_w (by omega)]
        simp only [e2, e1]
        have e4 : IntKind.i64.wrap (max deep (2 * f.1) + r.depth) = max deep (2 * f.1) + r.depth := mid_w (by omega)
        have e5 : IntKind.i64.wrap (1 + r.rows) = 1 + r.rows := mid_w (by omega)
        have e6 : IntKind.i64.wrap (max deep (2 * f.1) + r.depth + b.c) = max deep (2 * f.1) + r.depth + b.c := mid_w (by omega)
        simp only [e4, e5, e6]
        refine ⟨⟨by omega, hlt⟩, fun hb => ?_, fun hb => ⟨⟨by omega, by omega⟩, fun hi => ?_, fun hi => ?_⟩⟩
        · rw [if_pos hb] at hbest
          rw [← hbest] at h
          exact ans_pl h
        · rw [if_neg hb, if_pos hi] at hbest
          refine ⟨(j + 1, wide + (b.c + 2 * f.1), max deep (2 * f.1), out), ⟨by dsimp only; omega, ⟨by dsimp only; omega, by dsimp only; omega⟩, ⟨by dsimp only; omega, by dsimp only; omega⟩, hbest⟩, by dsimp only; omega, ?_⟩
          simp only [leS_mk, leL_cons, leL_nil, le_junk, le_int, le_bool, le_nil, leLL_nil, leLL_cons, leH_cons, leH_nil, leH1_box, leH1_own, leH1_gone, le_vs, le_agg, le_tup, le_ptr, le_own, le_xp, le_fn, le_opt, le_val, le_elem, le_nil_own, le_nil_vs, leH_ghost, leL_chunk, leXL_id, bnd_int, bnd_bool, bnd_val, bnd_nil, bnd_junk, bnd_vs, bnd_xp, bnd_agg, bnd_tup, bnd_ptr, bnd_own, bnd_elem, bnd_fn, bnd_iface, bnd_opt, bndL_nil, bndL_cons, lenH_cons, lenH_nil, imp_self, implies_true, true_and, and_true]
          omega
        · rw [if_neg hb, if_neg (by rw [hi]; simp)] at hbest
          refine ⟨fun hp => ?_, fun hp => ?_⟩
          · have hC : candF b (max deep (2 * f.1)) r j = ⟨max deep (2 * f.1) + r.depth + b.c, 1 + r.rows, ((j + 1 : Nat) : Int), true⟩ := by
              unfold candF; rw [if_pos hp]; rfl
            rw [hC] at hbest
            refine ⟨fun hbt => ?_, fun hbt => ?_⟩
            · rw [if_pos (show betterF _ out = true from hbt)] at hbest
              refine ⟨(j + 1, wide + (b.c + 2 * f.1), max deep (2 * f.1), _), ⟨by dsimp only; omega, ⟨by dsimp only; omega, by dsimp only; omega⟩, ⟨by dsimp only; omega, by dsimp only; omega⟩, hbest⟩, by dsimp only; omega, ?_⟩
              simp only [leS_mk, leL_cons, leL_nil, le_junk, le_int, le_bool, le_nil, leLL_nil, leLL_cons, leH_cons, leH_nil, leH1_box, leH1_own, leH1_gone, le_vs, le_agg, le_tup, le_ptr, le_own, le_xp, le_fn, le_opt, le_val, le_elem, le_nil_own, le_nil_vs, leH_ghost, leL_chunk, leXL_id, bnd_int, bnd_bool, bnd_val, bnd_nil, bnd_junk, bnd_vs, bnd_xp, bnd_agg, bnd_tup, bnd_ptr, bnd_own, bnd_elem, bnd_fn, bnd_iface, bnd_opt, bndL_nil, bndL_cons, lenH_cons, lenH_nil, imp_self, implies_true, true_and, and_true]
              omega
            · rw [if_neg (show ¬ betterF _ out = true by intro hh; have hbt : betterF _ out = false := hbt; rw [hh] at hbt; cases hbt)] at hbest
              refine ⟨(j + 1, wide + (b.c + 2 * f.1), max deep (2 * f.1), out), ⟨by dsimp only; omega, ⟨by dsimp only; omega, by dsimp only; omega⟩, ⟨by dsimp only; omega, by dsimp only; omega⟩, hbest⟩, by dsimp only; omega, ?_⟩
              simp only [leS_mk, leL_cons, leL_nil, le_junk, le_int, le_bool, le_nil, leLL_nil, leLL_cons, leH_cons, leH_nil, leH1_box, leH1_own, leH1_gone, le_vs, le_agg, le_tup, le_ptr, le_own, le_xp, le_fn, le_opt, le_val, le_elem, le_nil_own, le_nil_vs, leH_ghost, leL_chunk, leXL_id, bnd_int, bnd_bool, bnd_val, bnd_nil, bnd_junk, bnd_vs, bnd_xp, bnd_agg, bnd_tup, bnd_ptr, bnd_own, bnd_elem, bnd_fn, bnd_iface, bnd_opt, bndL_nil, bndL_cons, lenH_cons, lenH_nil, imp_self, implies_true, true_and, and_true]
              omega
          · have hC : candF b (max deep (2 * f.1)) r j = ⟨max deep (2 * f.1) + r.depth, 1 + r.rows, ((j + 1 : Nat) : Int), true⟩ := by
              unfold candF; rw [if_neg hp, Int.add_zero]; rfl
            rw [hC] at hbest
            refine ⟨fun hbt => ?_, fun hbt => ?_⟩
            · rw [if_pos (show betterF _ out = true from hbt)] at hbest
              refine ⟨(j + 1, wide + (b.c + 2 * f.1), max deep (2 * f.1), _), ⟨by dsimp only; omega, ⟨by dsimp only; omega, by dsimp only; omega⟩, ⟨by dsimp only; omega, by dsimp only; omega⟩, hbest⟩, by dsimp only; omega, ?_⟩
              simp only [leS_mk, leL_cons, leL_nil, le_junk, le_int, le_bool, le_nil, leLL_nil, leLL_cons, leH_cons, leH_nil, leH1_box, leH1_own, leH1_gone, le_vs, le_agg, le_tup, le_ptr, le_own, le_xp, le_fn, le_opt, le_val, le_elem, le_nil_own, le_nil_vs, leH_ghost, leL_chunk, leXL_id, bnd_int, bnd_bool, bnd_val, bnd_nil, bnd_junk, bnd_vs, bnd_xp, bnd_agg, bnd_tup, bnd_ptr, bnd_own, bnd_elem, bnd_fn, bnd_iface, bnd_opt, bndL_nil, bndL_cons, lenH_cons, lenH_nil, imp_self, implies_true, true_and, and_true]
              omega
            · rw [if_neg (show ¬ betterF _ out = true by intro hh; have hbt : betterF _ out = false := hbt; rw [hh] at hbt; cases hbt)] at hbest
              refine ⟨(j + 1, wide + (b.c + 2 * f.1), max deep (2 * f.1), out), ⟨by dsimp only; omega, ⟨by dsimp only; omega, by dsimp only; omega⟩, ⟨by dsimp only; omega, by dsimp only; omega⟩, hbest⟩, by dsimp only; omega, ?_⟩
              simp only [leS_mk, leL_cons, leL_nil, le_junk, le_int, le_bool, le_nil, leLL_nil, leLL_cons, leH_cons, leH_nil, leH1_box, leH1_own, leH1_gone, le_vs, le_agg, le_tup, le_ptr, le_own, le_xp, le_fn, le_opt, le_val, le_elem, le_nil_own, le_nil_vs, leH_ghost, leL_chunk, leXL_id, bnd_int, bnd_bool, bnd_val, bnd_nil, bnd_junk, bnd_vs, bnd_xp, bnd_agg, bnd_tup, bnd_ptr, bnd_own, bnd_elem, bnd_fn, bnd_iface, bnd_opt, bndL_nil, bndL_cons, lenH_cons, lenH_nil, imp_self, implies_true, true_and, and_true]
              omega
      · have hj' : j = (l.drop i).length := by rw [List.length_drop]; omega
        rw [hj', List.drop_of_length_le (Nat.le_refl _), bestG] at hbest
        rw [← hbest] at h
        exact ans_pl h
  · exact h.1.elim
end Go.Proofs.Ytojaibhjfeojjaa

/- Layouts, walked: Rows. -/
/- Layouts, walked: Rows. -/
set_option linter.all false
namespace Go.Proofs.Ytojaibhjfeojjaa
open Go Go.Vx
set_option maxRecDepth 100000
set_option maxHeartbeats 4000000

def v11 : VF := { ntmps := 130, res := [.tmp 4, .tmp 5], body :=
 (.seq (.region [u1 2 .box [.tm 0],
 u1 4 .mov [.cn .nil],
 u1 5 .mov [.cn (.int .i64 0)]])
 (.seq (.block 0 (.seq (.region [u1 17 (.fieldAddr 5) [.tm 2],
 u1 18 (.load false 1) [.tm 17],
 u1 19 .len [.tm 18],
 u1 20 (.cmp .gtr) [.tm 19, .cn (.int .i64 8)],
 u1 21 .mov [.tm 20],
 u2 22 21 false .mov [.tm 1],
 u2 23 21 false .len [.tm 22],
 u2 24 21 false (.cmp .gtr) [.tm 23, .cn (.int .i64 200)],
 u1 25 .or [.tm 21, .tm 24],
 u1 16 .mov [.tm 25]])
 (.cond (.tm 16) (.seq (.region [u1 4 .mov [.cn .nil],
 u1 5 .mov [.cn (.int .i64 3)]])
 .ret)
  (.seq (.region [u1 27 (.load true 6) [.tm 2],
 u1 28 (.call 33) [.tm 27],
 u1 29 .mov [.tm 28],
 u2 30 29 false .mov [.tm 1],
 u2 31 29 false (.call 34) [.tm 30, .cn (.fn (.func 35) [] [])],
 u1 32 .or [.tm 29, .tm 31],
 u1 26 .mov [.tm 32]])
 (.cond (.tm 26) (.seq (.region [u1 4 .mov [.cn .nil],
 u1 5 .mov [.cn (.int .i64 2)]])
 .ret)
  .skip)))))
 (.seq (.region [u1 33 .mov [.tm 1],
 u1 34 .len [.tm 33],
 u1 35 (.ari .add) [.tm 34, .cn (.int .i64 1)],
 u1 36 (.make 4 32 [(.int .i64 0), (.int .i64 0), (.int .i64 0), (.bool false)]) [.tm 35, .tm 35],
 u1 6 .mov [.tm 36]])
 (.seq (.region [u1 37 .mov [.tm 6],
 u1 38 .mov [.tm 1],
 u1 39 .len [.tm 38],
 u1 40 (.idxAddr 4) [.tm 37, .tm 39],
 u1 41 (.fieldAddr 3) [.tm 40],
 u0 (.store 1) [.tm 41, .cn (.bool true)]])
 (.seq (.seq (.region [u1 42 .mov [.tm 1],
 u1 43 .len [.tm 42],
 u1 44 (.ari .sub) [.tm 43, .cn (.int .i64 1)],
 u1 7 .mov [.tm 44]])
 (.block 1 (.loop (.seq (.seq (.region [u1 45 .mov [.tm 7],
 u1 46 (.cmp .geq) [.tm 45, .cn (.int .i64 0)]])
 (.cond (.tm 46) .skip
  (.exit 1)))
 (.seq (.block 2 (.region [u1 49 .mov [.tm 6],
 u1 50 .mov [.tm 7],
 u1 51 (.load true 6) [.tm 2],
 u1 52 .mov [.tm 1],
 u1 53 .mov [.tm 6],
 u1 54 .mov [.tm 7],
 u1 55 (.call 36) [.tm 51, .tm 52, .tm 53, .tm 54],
 u1 56 (.idxAddr 4) [.tm 49, .tm 50],
 u0 (.store 4) [.tm 56, .tm 55]]))
 (.region [u1 47 .mov [.tm 7],
 u1 48 (.ari .sub) [.tm 47, .cn (.int .i64 1)],
 u1 7 .mov [.tm 48]]))))))
 (.seq (.seq (.draw [] [w1 57 .mov [.tm 6],
 w1 58 (.idxAddr 4) [.tm 57, .cn (.int .i64 0)],
 w1 59 (.fieldAddr 3) [.tm 58],
 w1 60 (.load false 1) [.tm 59],
 w1 61 .not [.tm 60],
 w1 62 .mov [.tm 61],
 ⟨u2 63 62 false .mov [.tm 6], []⟩,
 ⟨u2 64 62 false (.idxAddr 4) [.tm 63, .cn (.int .i64 0)], []⟩,
 ⟨u2 65 62 false (.fieldAddr 0) [.tm 64], []⟩,
 ⟨u2 66 62 false (.load false 1) [.tm 65], []⟩,
 ⟨u2 67 62 false (.fieldAddr 1) [.tm 2], []⟩,
 ⟨u2 68 62 false (.load false 1) [.tm 67], []⟩,
 ⟨u2 69 62 false (.cmp .gtr) [.tm 66, .tm 68], []⟩,
 w1 70 .or [.tm 62, .tm 69]])
 (.cond (.tm 70) (.seq (.region [u1 4 .mov [.cn .nil],
 u1 5 .mov [.cn (.int .i64 4)]])
 .ret)
  .skip))
 (.seq (.region [u1 8 .mov [.cn .nil]])
 (.seq (.region [u1 9 .mov [.cn (.int .i64 0)]])
 (.seq (.seq (.region [u1 10 .mov [.cn (.int .i64 0)]])
 (.block 3 (.loop (.seq (.seq (.region [u1 71 .mov [.tm 10],
 u1 72 .mov [.tm 1],
 u1 73 .len [.tm 72],
 u1 74 (.cmp .lss) [.tm 71, .tm 73]])
 (.cond (.tm 74) .skip
  (.exit 3)))
 (.block 4 (.seq (.region [u1 75 .mov [.tm 1],
 u1 76 .mov [.tm 10],
 u1 77 .mov [.tm 10],
 u1 78 .mov [.tm 6],
 u1 79 .mov [.tm 10],
 u1 80 (.idxAddr 4) [.tm 78, .tm 79],
 u1 81 (.fieldAddr 2) [.tm 80],
 u1 82 (.load false 1) [.tm 81],
 u1 83 (.ari .add) [.tm 77, .tm 82],
 u1 84 (.slice 2 true true) [.tm 75, .tm 76, .tm 83],
 u1 11 .mov [.tm 84]])
 (.seq (.region [u1 85 .mov [.tm 11],
 u1 86 (.call 37) [.tm 85, .cn (.fn (.func 38) [] [])],
 u1 87 (.field false 0 1) [.tm 86],
 u1 12 .mov [.tm 87]])
 (.seq (.region [u1 13 .mov [.cn (.int .i64 0)]])
 (.seq (.seq (.region [u1 88 .mov [.tm 11],
 u1 89 .len [.tm 88],
 u1 90 .mov [.cn (.int .i64 0)]])
 (.block 5 (.loop (.seq (.region [u1 91 (.cmp .lss) [.tm 90, .tm 89]])
 (.seq (.cond (.tm 91) .skip
  (.exit 5))
 (.seq (.block 6 (.seq (.region [u1 92 (.idxAddr 2) [.tm 88, .tm 90],
 u1 93 (.load true 2) [.tm 92],
 u1 15 (.alloc [(.int .i64 0), (.int .i64 0)]) [],
 u0 (.store 2) [.tm 15, .tm 93]])
 (.seq (.region [u1 94 .mov [.tm 8],
 u1 95 .mov [.tm 13],
 u1 96 (.fieldAddr 0) [.tm 15],
 u1 97 (.load false 1) [.tm 96],
 u1 98 (.ari .add) [.tm 95, .tm 97],
 u1 99 .mov [.tm 9],
 u1 100 .mov [.tm 12],
 u1 101 (.ari .add) [.tm 99, .tm 100],
 u1 102 (.fieldAddr 0) [.tm 15],
 u1 103 (.load false 1) [.tm 102],
 u1 104 (.fieldAddr 1) [.tm 15],
 u1 105 (.load false 1) [.tm 104],
 u1 106 (.build [(.int .i64 0), (.int .i64 0), (.int .i64 0), (.int .i64 0)] [(0, 1), (1, 1), (2, 1), (3, 1)]) [.tm 98, .tm 101, .tm 103, .tm 105],
 u1 107 (.buildSlice 4 1 [(.int .i64 0), (.int .i64 0), (.int .i64 0), (.int .i64 0)] [(0, 4)]) [.tm 106],
 u1 108 (.append 4 32 [(.int .i64 0), (.int .i64 0), (.int .i64 0), (.int .i64 0)]) [.tm 94, .tm 107],
 u1 8 .mov [.tm 108]])
 (.region [u1 109 .mov [.tm 13],
 u1 110 (.fieldAddr 0) [.tm 15],
 u1 111 (.load false 1) [.tm 110],
 u1 112 (.ari .mul) [.cn (.int .i64 2), .tm 111],
 u1 113 (.fieldAddr 2) [.tm 2],
 u1 114 (.load false 1) [.tm 113],
 u1 115 (.ari .add) [.tm 112, .tm 114],
 u1 116 (.ari .add) [.tm 109, .tm 115],
 u1 13 .mov [.tm 116]]))))
 (.region [u1 117 (.ari .add) [.tm 90, .cn (.int .i64 1)],
 u1 90 .mov [.tm 117]])))))))
 (.seq (.region [u1 118 .mov [.tm 9],
 u1 119 .mov [.tm 12],
 u1 120 (.ari .mul) [.cn (.int .i64 2), .tm 119],
 u1 121 (.fieldAddr 2) [.tm 2],
 u1 122 (.load false 1) [.tm 121],
 u1 123 (.ari .add) [.tm 120, .tm 122],
 u1 124 (.ari .add) [.tm 118, .tm 123],
 u1 9 .mov [.tm 124]])
 (.region [u1 125 .mov [.tm 10],
 u1 126 .mov [.tm 11],
 u1 127 .len [.tm 126],
 u1 128 (.ari .add) [.tm 125, .tm 127],
 u1 10 .mov [.tm 128]])))))))))))
 (.seq (.region [u1 129 .mov [.tm 8],
 u1 4 .mov [.tm 129],
 u1 5 .mov [.cn (.int .i64 0)]])
 .ret)))))))))) }
theorem v11_is : vfunc Try.prog Try.f11 = some v11 := by kernel_rfl


def lsS (l : List Std) : SV := .vs true (decide (l.length = 0)) l.length 4 (fun k => encS (l.getD k default))
def rowC : Ctr := { alias := false, of := fun l => match l with
  | [.agg [.int .i64 w, .int .i64 d, .int .i64 c, .int .i64 a, .int .i64 s, .vs _ _ n sz get], .vs _ _ n' sz' get'] => .ex Brd fun b => .ex (List Ft) fun l => .pre (brdP b w d c a s n sz get ∧ lsP 2 encT n' sz' get' l ∧ l.length ≤ 1000000000000) (.fin (.tup [lsS (rowsR b l).1, .int .i64 (rowsR b l).2]) [])
  | _ => noC }
def J0 : Env := { ct := fun n => match n with | 33 => some wrC | 34 => some anyFC | 36 => some besC | 37 => some mxC | _ => none, fn := fun _ => none, meth := fun _ _ => none }
theorem J0_ct33 : J0.ct 33 = some wrC := rfl
theorem J0_ct34 : J0.ct 34 = some anyFC := rfl
theorem J0_ct36 : J0.ct 36 = some besC := rfl
theorem J0_ct37 : J0.ct 37 = some mxC := rfl
theorem J0_ok : EnvOk Try.prog J0 := by
  refine ⟨fun f c h => ?_, fun f vf h => ?_, (fun _ _ _ h => by cases h), by kernel_rfl⟩
  · simp only [J0] at h
    split at h
    · cases h; exact ⟨wr_ok, Try.f33, Try.func33, by kernel_rfl, by kernel_rfl⟩
    · cases h; exact ⟨anyF_ok, Try.f34, Try.func34, by kernel_rfl, by kernel_rfl⟩
    · cases h; exact ⟨bes_ok, Try.f36, Try.func36, by kernel_rfl, by kernel_rfl⟩
    · cases h; exact ⟨mx_ok, Try.f37, Try.func37, by kernel_rfl, by kernel_rfl⟩
    · cases h
  · cases h

theorem ans_lsn {k : SV → List HO → Prop} {al : Bool} {hp : List HO} {e : Int} (h : k (.tup [lsS [], .int .i64 e]) []) : answers al k (.tup [.nil, .int .i64 e]) hp :=
  ans_le h (by simp [expo, view, viewL, lsS, le, leL]) (fun _ => by simp [lsS, freshS, freshL])
theorem askF_ok {b : Brd} {l : List Ft} (h : askF b l = 0) : okB b ∧ (∀ f ∈ l, okF f) ∧ l.length ≤ 200 := by
  unfold askF at h
  split at h
  · cases h
  · split at h
    · cases h
    · rename_i h1 h2
      rw [Bool.not_eq_true, Bool.or_eq_false_iff] at h2
      refine ⟨wrongF_no (by omega) h2.1, fun p hp => ?_, by omega⟩
      have := List.any_eq_false.1 h2.2 p hp
      simp only [footF, Bool.not_eq_true, Bool.or_eq_false_iff, outF_no] at this
      exact this
def zP : Plan := ⟨0, 0, 0, false⟩
/-- The plans when those from n on are known. -/
def plG (b : Brd) (l : List Ft) (n : Nat) : List Plan := List.replicate n zP ++ plansF b (l.drop n)
theorem plG_len {b : Brd} {l : List Ft} {n : Nat} (h : n ≤ l.length) : (plG b l n).length = l.length + 1 := by
  rw [plG, List.length_append, List.length_replicate, plans_len, List.length_drop]; omega
theorem plG_drop {b : Brd} {l : List Ft} {n : Nat} : (plG b l n).drop n = plansF b (l.drop n) := by
  rw [plG]
  have := List.drop_left (l₁ := List.replicate n zP) (l₂ := plansF b (l.drop n))
  rwa [List.length_replicate] at this
theorem plG_get {b : Brd} {l : List Ft} {n k : Nat} (h : n ≤ l.length) (hk : k ≤ l.length) : (plG b l n).getD k default = if k < n then zP else headP b (l.drop k) := by
  rw [plG, List.getD_eq_getElem?_getD]
  split
  · rename_i hkn
    rw [List.getElem?_append_left (by rw [List.length_replicate]; exact hkn), List.getElem?_replicate, if_pos hkn]; rfl
  · rename_i hkn
    rw [List.getElem?_append_right (by rw [List.length_replicate]; omega), List.length_replicate, ← List.getD_eq_getElem?_getD, plans_get b (by rw [List.length_drop]; omega), List.drop_drop, show n + (k - n) = k by omega]
theorem plG_ok {b : Brd} (hb : okB b) {l : List Ft} {n : Nat} (hn : l.length ≤ 200) (hl : ∀ f ∈ l, okF f) : ∀ p ∈ plG b l n, okPl p := by
  intro p hp
  rcases List.mem_append.1 hp with hp | hp
  · rw [List.eq_of_mem_replicate hp]; simp [okPl, zP]
  · exact plans_ok hb.2.2.1 (by rw [List.length_drop]; omega) (fun f hf => hl f (List.mem_of_mem_drop hf)) p hp
theorem plG_head {b : Brd} {l : List Ft} {i : Nat} (h : i < l.length) : bestF b (l.drop i) ((plG b l (i + 1)).drop (i + 1)) = headP b (l.drop i) := by
  rw [plG_drop, drop_cons' h]; rfl

theorem row_ok : rowC.ok Try.prog 11 := by
  refine contract Try.func11 v11_is J0_ok 400 rowC fun args k h => ?_
  simp only [rowC] at h
  split at h
  · rename_i w d c a s t z n sz get t' z' n' sz' get'
    obtain ⟨b, l, ⟨hbp, ⟨rfl, rfl, hg⟩, hbig⟩, h⟩ := h
    refine ⟨[.agg (encB t z b), .vs t' z' l.length 2 (fun k => encT (l.getD k default))], ⟨brd_le hbp, by simpa [le] using hg, trivial⟩, ?_⟩
    have h : k (.tup [lsS (rowsR b l).1, .int .i64 (rowsR b l).2]) [] := h
    dsimp only [v11, J0_ct33, J0_ct34, wrC, anyFC, anyC, encB, encT, encS, go_sem, Option.bind, Option.map, List.append_nil, Nat.beq, List.cons_append, List.nil_append, List.append_eq, List.map_cons, List.map_nil, ite_self, reduceIte]
    simp only [true_and, and_true, imp_self, implies_true, decide_eq_true_eq, decide_eq_false_iff_not, Nat.reduceAdd, Nat.reduceLeDiff, Bool.not_not, reduceCtorEq, false_imp_iff, Bool.not_eq_true', Bool.not_eq_false', Bool.false_eq_true, and_self, forall_const, ne_eq, not_false_eq_true, Nat.reduceEqDiff]
    unfold rowsR at h
    refine ⟨fun hb => ?_, fun hb => ?_⟩
    · simp only [Bool.or_eq_true, decide_eq_true_eq] at hb
      have e : askF b l = 3 := by rw [askF, if_pos (by omega)]
      rw [e, if_pos (by decide)] at h
      exact ans_lsn h
    · simp only [Bool.or_eq_false_iff, decide_eq_false_iff_not] at hb
      refine ⟨b, ⟨brdP_self b, by omega⟩, l, footP, fun _ => ⟨lsP_self, by omega, rfl, rfl, rfl⟩, fun hc => ?_, fun hc => ?_⟩
      · have e : askF b l = 2 := by rw [askF, if_neg (by omega)]; exact if_pos hc
        rw [e, if_pos (by decide)] at h
        exact ans_lsn h
      · have e : askF b l = 0 := by rw [askF, if_neg (by omega)]; exact if_neg (by intro hh; have hc : (wrongF b || l.any fun f => footF f.1 f.2) = false := hc; rw [hc] at hh; cases hh)
        obtain ⟨hbo, hlo, hlen⟩ := askF_ok e
        rw [e, if_neg (by decide)] at h
        have ew : IntKind.i64.wrap ((l.length : Int) + 1) = ((l.length + 1 : Nat) : Int) := by rw [mid_w (by omega)]; omega
        rw [ew]
        simp only [Int.toNat_natCast]
        refine ⟨⟨by decide, by omega, by omega, by unfold capOk; omega⟩, ⟨by omega, by omega⟩, by omega, ?_⟩
        refine Loop.keep [1, 0, 3, 0] Nat (fun n => [(7, .int .i64 ((n : Int) - 1))]) (fun n => [(1, .own false 4 (l.length + 1) (fun k => encP ((plG b l n).getD k default)))]) [] (fun n => n ≤ l.length) (fun n => n) ?_ ?_
        · refine ⟨l.length, Nat.le_refl _, ?_⟩
          dsimp only [go_sem, Option.bind, Option.map, List.append_nil, Nat.beq, List.cons_append, List.nil_append, List.append_eq, List.map_cons, List.map_nil, ite_self, reduceIte]
          simp only [leS_mk, leL_cons, leL_nil, le_junk, le_int, le_bool, le_nil, leLL_nil, leLL_cons, leH_cons, leH_nil, leH1_box, leH1_own, leH1_gone, le_vs, le_agg, le_tup, le_ptr, le_own, le_xp, le_fn, le_opt, le_val, le_elem, le_nil_own, le_nil_vs, leH_ghost, leL_chunk, leXL_id, bnd_int, bnd_bool, bnd_val, bnd_nil, bnd_junk, bnd_vs, bnd_xp, bnd_agg, bnd_tup, bnd_ptr, bnd_own, bnd_elem, bnd_fn, bnd_iface, bnd_opt, bndL_nil, bndL_cons, lenH_cons, lenH_nil, imp_self, implies_true, true_and, and_true]
          rw [mid_w (by omega)]
          refine ⟨by omega, fun q hq => ?_⟩
          rw [plG_get (Nat.le_refl _) (by omega)]
          by_cases hql : q = l.length
          · subst hql
            rw [if_pos rfl, if_neg (by omega), List.drop_of_length_le (Nat.le_refl _), plans_nil]
            exact leL_self [.int _ _, .int _ _, .int _ _, .bool _] ⟨trivial, trivial, trivial, trivial, trivial⟩
          · rw [if_neg hql, if_pos (by omega)]
            exact leL_self [.int _ _, .int _ _, .int _ _, .bool _] ⟨trivial, trivial, trivial, trivial, trivial⟩
        · rintro n hn
          dsimp only [J0_ct36, besC, encT, encP, Int.toNat_natCast, go_sem, Option.bind, Option.map, List.append_nil, Nat.beq, List.cons_append, List.nil_append, List.append_eq, List.map_cons, List.map_nil, ite_self, reduceIte]
          simp only [true_and, and_true, imp_self, implies_true, decide_eq_true_eq, decide_eq_false_iff_not, Nat.reduceAdd, Nat.reduceLeDiff, Bool.not_not, reduceCtorEq, false_imp_iff, Bool.not_eq_true', Bool.not_eq_false', Bool.false_eq_true, and_self, forall_const, ne_eq, not_false_eq_true, Nat.reduceEqDiff]
          refine ⟨fun hlt => ?_, fun hge => ?_⟩
          · obtain ⟨i, rfl⟩ : ∃ i, n = i + 1 := ⟨n - 1, by omega⟩
            have ei : ((i + 1 : Nat) : Int) - 1 = (i : Int) := by omega
            rw [ei]
            simp only [Int.toNat_natCast]
            refine ⟨b, l, plG b l (i + 1), ⟨brdP_self b, lsP_self, ⟨rfl, (plG_len hn).symm, fun q _ => leXL_self _⟩, ⟨by omega, by omega⟩, plG_len hn, hbo, hlo, hlen, plG_ok hbo hlen hlo⟩, ?_⟩
            rw [plG_head (by omega)]
            refine ⟨⟨by omega, by omega⟩, by omega, i, by omega, by omega, ?_⟩
            have ej : IntKind.i64.wrap ((i : Int) - 1) = (i : Int) - 1 := mid_w (by omega)
            simp only [ej, leS_mk, leL_cons, leL_nil, le_junk, le_int, le_bool, le_nil, leLL_nil, leLL_cons, leH_cons, leH_nil, leH1_box, leH1_own, leH1_gone, le_vs, le_agg, le_tup, le_ptr, le_own, le_xp, le_fn, le_opt, le_val, le_elem, le_nil_own, le_nil_vs, leH_ghost, leL_chunk, leXL_id, bnd_int, bnd_bool, bnd_val, bnd_nil, bnd_junk, bnd_vs, bnd_xp, bnd_agg, bnd_tup, bnd_ptr, bnd_own, bnd_elem, bnd_fn, bnd_iface, bnd_opt, bndL_nil, bndL_cons, lenH_cons, lenH_nil, imp_self, implies_true, true_and, and_true]
            refine ⟨by omega, fun q hq => ?_⟩
            rw [plG_get (n := i) (by omega) (by omega)]
            by_cases hqi : q = i
            · subst hqi
              rw [if_pos rfl, if_neg (by omega)]
              exact leL_self [.int _ _, .int _ _, .int _ _, .bool _] ⟨trivial, trivial, trivial, trivial, trivial⟩
            · rw [if_neg hqi, plG_get (n := i + 1) (by omega) (by omega)]
              by_cases hqn : q < i
              · rw [if_pos hqn, if_pos (by omega)]
                exact leL_self [.int _ _, .int _ _, .int _ _, .bool _] ⟨trivial, trivial, trivial, trivial, trivial⟩
              · rw [if_neg hqn, if_neg (by omega)]
                exact leL_self [.int _ _, .int _ _, .int _ _, .bool _] ⟨trivial, trivial, trivial, trivial, trivial⟩
          · obtain rfl : n = 0 := by omega
            have e0 : (plG b l 0).getD (Int.toNat 0) default = headP b l := by
              show (plG b l 0).getD 0 default = _
              rw [plG_get (Nat.zero_le _) (Nat.zero_le _)]; rfl
            simp only [e0]
            refine ⟨⟨by decide, by omega⟩, by show 0 < l.length + 1; omega, fun _ => ⟨by decide, by omega⟩, fun _ => by show 0 < l.length + 1; omega, fun hh => ?_, fun hh => ?_⟩
            · rw [if_pos (by simpa using hh)] at h
              exact ans_lsn h
            · have hh2 : (headP b l).is = true ∧ ¬ b.d < (headP b l).depth := by simpa using hh
              rw [if_neg (by rw [hh2.1]; simp; omega)] at h
              obtain ⟨T, hT⟩ : ∃ T, T = placeL b (divL b l) l 0 := ⟨_, rfl⟩
              have h : k (.tup [lsS (placeL b (divL b l) l 0), .int .i64 0]) [] := h
              rw [← hT] at h
              refine Loop.keep [1, 0, 3, 1, 0, 0] (Nat × Int × List Std) (fun x => [(8, .own 2 0 x.2.2.length 4), (9, .int .i64 x.2.1), (10, .int .i64 x.1)]) (fun x => [(2, .own (decide (x.2.2.length = 0)) 4 x.2.2.length (fun k => encS (x.2.2.getD k default)))]) [.gone] (fun x => x.1 ≤ l.length ∧ x.2.2.length = x.1 ∧ (0 ≤ x.2.1 ∧ x.2.1 ≤ 3000000 * x.1) ∧ (headP b (l.drop x.1)).is = true ∧ ∃ m, l.length - x.1 ≤ m ∧ x.2.2 ++ placeL b (divG b m (l.drop x.1)) (l.drop x.1) x.2.1 = T) (fun x => l.length - x.1) ?_ ?_
              · refine ⟨(0, 0, []), ⟨Nat.zero_le _, rfl, ⟨Int.le_refl _, by dsimp only; omega⟩, hh2.1, l.length, by dsimp only; omega, by rw [hT]; rfl⟩, ?_⟩
                dsimp only [go_sem, Option.bind, Option.map, List.append_nil, Nat.beq, List.cons_append, List.nil_append, List.append_eq, List.map_cons, List.map_nil, ite_self, reduceIte]
                simp only [leS_mk, leL_cons, leL_nil, le_junk, le_int, le_bool, le_nil, leLL_nil, leLL_cons, leH_cons, leH_nil, leH1_box, leH1_own, leH1_gone, le_vs, le_agg, le_tup, le_ptr, le_own, le_xp, le_fn, le_opt, le_val, le_elem, le_nil_own, le_nil_vs, leH_ghost, leL_chunk, leXL_id, bnd_int, bnd_bool, bnd_val, bnd_nil, bnd_junk, bnd_vs, bnd_xp, bnd_agg, bnd_tup, bnd_ptr, bnd_own, bnd_elem, bnd_fn, bnd_iface, bnd_opt, bndL_nil, bndL_cons, lenH_cons, lenH_nil, imp_self, implies_true, true_and, and_true]
                simp
              · rintro ⟨i, y, o⟩ ⟨hi, hol, ⟨hy1, hy2⟩, hhi, m, hm, hTe⟩
                dsimp only at hi hol hy1 hy2 hhi hm hTe
                dsimp only [J0_ct37, mxC, encS, encT, encP, Int.toNat_natCast, go_sem, Option.bind, Option.map, List.append_nil, Nat.beq, List.cons_append, List.nil_append, List.append_eq, List.map_cons, List.map_nil, ite_self, reduceIte]
                simp only [true_and, and_true, imp_self, implies_true, decide_eq_true_eq, decide_eq_false_iff_not, Nat.reduceAdd, Nat.reduceLeDiff, Bool.not_not, reduceCtorEq, false_imp_iff, Bool.not_eq_true', Bool.not_eq_false', Bool.false_eq_true, and_self, forall_const, ne_eq, not_false_eq_true, Nat.reduceEqDiff]
                simp only [subLo_eq, addLo_eq]
                refine ⟨fun hlt => ?_, fun hge => ?_⟩
                · have hpg : (plG b l 0).getD i default = headP b (l.drop i) := by
                    rw [plG_get (Nat.zero_le _) hi]; rfl
                  have hlp : ∀ f ∈ l.drop i, 1 ≤ f.1 := fun f hf => (hlo f (List.mem_of_mem_drop hf)).1.1
                  obtain ⟨j, hj, hfi, hwj, hnx, _⟩ := head_first hbo.2.2.1.1 (l := l.drop i) (by rw [List.length_drop]; omega) hlp hhi
                  rw [List.length_drop] at hj
                  have efi : IntKind.i64.wrap ((i : Int) + ((j : Int) + 1)) = ((i + (j + 1) : Nat) : Int) := by rw [mid_w (by omega)]; omega
                  simp only [hpg, hfi, efi, Int.toNat_natCast]
                  simp only [Nat.add_sub_cancel_left]
                  obtain ⟨R, hR⟩ : ∃ R, R = (l.drop i).take (j + 1) := ⟨_, rfl⟩
                  have hRl : R.length = j + 1 := by rw [hR, List.length_take, List.length_drop]; omega
                  have hRg : ∀ q, q < j + 1 → R.getD q default = l.getD (i + q) default := fun q hq => by
                    rw [hR, List.getD_eq_getElem?_getD, List.getElem?_take, if_pos hq, ← List.getD_eq_getElem?_getD, getD_drop]
                  have hRo : ∀ f ∈ R, okF f := fun f hf => hlo f (List.mem_of_mem_drop (List.mem_of_mem_take (by rw [← hR]; exact hf)))
                  have hmx : (maxG R).1 = mostF R := maxG_most (fun f hf => (hRo f hf).1.1) (by omega)
                  have hmr := mostF_rng R 0 hRo (Int.le_refl _) (by decide)
                  refine ⟨⟨by omega, by omega⟩, by omega, ⟨by omega, by omega, by omega⟩, R, ⟨⟨rfl, hRl.symm, fun q hq => ?_⟩, by omega, by omega, hRo⟩, ?_⟩
                  · rw [hRg q hq]; exact leXL_self _
                  rw [hmx]
                  obtain ⟨M, hM⟩ : ∃ M, M = mostF R := ⟨_, rfl⟩
                  have hMr : 0 ≤ M ∧ M ≤ 1000000 := by rw [hM]; exact hmr
                  rw [← hM]
                  refine Loop.keep [1, 0, 3, 1, 0, 0, 0, 0, 0, 74, 0, 0] (Nat × Int × List Std) (fun x => [(8, .own 2 0 x.2.2.length 4), (13, .int .i64 x.2.1), (90, .int .i64 x.1)]) (fun x => [(2, .own (decide (x.2.2.length = 0)) 4 x.2.2.length (fun k => encS (x.2.2.getD k default)))]) [] (fun x => x.1 ≤ j + 1 ∧ x.2.2.length = i + x.1 ∧ (0 ≤ x.2.1 ∧ x.2.1 ≤ 3000000 * x.1) ∧ x.2.2 ++ rowF b (y + M) (R.drop x.1) x.2.1 = o ++ rowF b (y + M) R 0) (fun x => j + 1 - x.1) ?_ ?_
                  · refine ⟨(0, 0, o), ⟨Nat.zero_le _, by dsimp only; omega, ⟨Int.le_refl _, by dsimp only; omega⟩, rfl⟩, ?_⟩
                    dsimp only [encS, go_sem, Option.bind, Option.map, List.append_nil, Nat.beq, List.cons_append, List.nil_append, List.append_eq, List.map_cons, List.map_nil, ite_self, reduceIte]
                    simp only [leS_mk, leL_cons, leL_nil, le_junk, le_int, le_bool, le_nil, leLL_nil, leLL_cons, leH_cons, leH_nil, leH1_box, leH1_own, leH1_gone, le_vs, le_agg, le_tup, le_ptr, le_own, le_xp, le_fn, le_opt, le_val, le_elem, le_nil_own, le_nil_vs, leH_ghost, leL_chunk, leXL_id, bnd_int, bnd_bool, bnd_val, bnd_nil, bnd_junk, bnd_vs, bnd_xp, bnd_agg, bnd_tup, bnd_ptr, bnd_own, bnd_elem, bnd_fn, bnd_iface, bnd_opt, bndL_nil, bndL_cons, lenH_cons, lenH_nil, imp_self, implies_true, true_and, and_true]
                    exact ⟨by omega, by omega, by omega, rfl⟩
                  · rintro ⟨q, x, o'⟩ ⟨hq, hql, ⟨hx1, hx2⟩, hoe⟩
                    dsimp only at hq hql hx1 hx2 hoe
                    dsimp only [encS, encT, Int.toNat_natCast, go_sem, Option.bind, Option.map, List.append_nil, Nat.beq, List.cons_append, List.nil_append, List.append_eq, List.map_cons, List.map_nil, ite_self, reduceIte]
                    simp only [true_and, and_true, imp_self, implies_true, decide_eq_true_eq, decide_eq_false_iff_not, Nat.reduceAdd, Nat.reduceLeDiff, Bool.not_not, reduceCtorEq, false_imp_iff, Bool.not_eq_true', Bool.not_eq_false', Bool.false_eq_true, and_self, forall_const, ne_eq, not_false_eq_true, Nat.reduceEqDiff]
                    refine ⟨fun hlq => ?_, fun hgq => ?_⟩
                    · have hf : okF (l.getD (i + q) default) := hlo _ (getD_mem (by omega))
                      have hRq := hRg q (by omega)
                      rw [drop_cons' (show q < R.length by omega), hRq, rowF] at hoe
                      generalize l.getD (i + q) default = f at *
                      obtain ⟨⟨f1, f2⟩, _⟩ := hf
                      obtain ⟨c1, c2⟩ := hbo.2.2.1
                      have w1 : IntKind.i64.wrap (x + f.1) = x + f.1 := mid_w (by omega)
                      have w2 : IntKind.i64.wrap (y + M) = y + M := mid_w (by omega)
                      have w3 : IntKind.i64.wrap (x + IntKind.i64.wrap (IntKind.i64.wrap (2 * f.1) + b.c)) = x + (2 * f.1 + b.c) := by
                        rw [mid_w (x := 2 * f.1) (by omega), mid_w (x := 2 * f.1 + b.c) (by omega), mid_w (by omega)]
                      have w4 : IntKind.i64.wrap ((q : Int) + 1) = ((q + 1 : Nat) : Int) := by rw [mid_w (by omega)]; omega
                      simp only [w1, w2, w3, w4]
                      refine ⟨⟨by omega, by omega⟩, by decide, ⟨by unfold capOk; omega, fun p hp => match p, hp with | 0, _ => ⟨rfl, trivial, trivial, trivial, trivial, trivial⟩⟩, (q + 1, x + (2 * f.1 + b.c), o' ++ [⟨x + f.1, y + M, f.1, f.2⟩]), ⟨by dsimp only; omega, by dsimp only; rw [List.length_append, List.length_singleton]; omega, ⟨by dsimp only; omega, by dsimp only; omega⟩, by dsimp only; rw [List.append_assoc]; exact hoe⟩, by dsimp only; omega, ?_⟩
                      simp only [List.length_append, List.length_singleton, getD_app, leS_mk, leL_cons, leL_nil, le_junk, le_int, le_bool, le_nil, leLL_nil, leLL_cons, leH_cons, leH_nil, leH1_box, leH1_own, leH1_gone, le_vs, le_agg, le_tup, le_ptr, le_own, le_xp, le_fn, le_opt, le_val, le_elem, le_nil_own, le_nil_vs, leH_ghost, leL_chunk, leXL_id, bnd_int, bnd_bool, bnd_val, bnd_nil, bnd_junk, bnd_vs, bnd_xp, bnd_agg, bnd_tup, bnd_ptr, bnd_own, bnd_elem, bnd_fn, bnd_iface, bnd_opt, bndL_nil, bndL_cons, lenH_cons, lenH_nil, imp_self, implies_true, true_and, and_true]
                      refine ⟨by omega, by simp, fun p hp => ?_⟩
                      rcases Nat.lt_or_ge p o'.length with h' | h'
                      · simp only [if_pos h']; exact leL_self [.int _ _, .int _ _, .int _ _, .int _ _] ⟨trivial, trivial, trivial, trivial, trivial⟩
                      · obtain rfl : p = o'.length := by omega
                        simp only [if_neg (Nat.lt_irrefl o'.length), if_pos, Nat.sub_self]
                        exact leL_self [.int _ _, .int _ _, .int _ _, .int _ _] ⟨trivial, trivial, trivial, trivial, trivial⟩
                    · obtain rfl : q = j + 1 := by omega
                      rw [List.drop_of_length_le (by omega), rowF, List.append_nil] at hoe
                      obtain ⟨c1, c2⟩ := hbo.2.2.1
                      have w5 : IntKind.i64.wrap (y + IntKind.i64.wrap (IntKind.i64.wrap (2 * M) + b.c)) = y + (2 * M + b.c) := by
                        rw [mid_w (x := 2 * M) (by omega), mid_w (x := 2 * M + b.c) (by omega), mid_w (by omega)]
                      have w6' : IntKind.i64.wrap ((i : Int) + ((j + 1 : Nat) : Int)) = ((i + (j + 1) : Nat) : Int) := by rw [mid_w (by omega)]; omega
                      simp only [w5, w6']
                      obtain ⟨m', rfl⟩ : ∃ m', m = m' + 1 := ⟨m - 1, by omega⟩
                      have hft : (headP b (l.drop i)).first.toNat = j + 1 := by rw [hfi]; omega
                      rw [divG, if_neg (by rw [List.length_drop]; omega), hft, placeL, ← hR, ← hM, List.drop_drop, ← List.append_assoc, ← hoe] at hTe
                      rw [List.drop_drop] at hnx
                      refine ⟨(i + (j + 1), y + (2 * M + b.c), o'), ⟨by dsimp only; omega, by dsimp only; omega, ⟨by dsimp only; omega, by dsimp only; omega⟩, hnx, m', by dsimp only; omega, hTe⟩, by dsimp only; omega, ?_⟩
                      simp only [leS_mk, leL_cons, leL_nil, le_junk, le_int, le_bool, le_nil, leLL_nil, leLL_cons, leH_cons, leH_nil, leH1_box, leH1_own, leH1_gone, le_vs, le_agg, le_tup, le_ptr, le_own, le_xp, le_fn, le_opt, le_val, le_elem, le_nil_own, le_nil_vs, leH_ghost, leL_chunk, leXL_id, bnd_int, bnd_bool, bnd_val, bnd_nil, bnd_junk, bnd_vs, bnd_xp, bnd_agg, bnd_tup, bnd_ptr, bnd_own, bnd_elem, bnd_fn, bnd_iface, bnd_opt, bndL_nil, bndL_cons, lenH_cons, lenH_nil, imp_self, implies_true, true_and, and_true]
                      omega
                · obtain rfl : i = l.length := by omega
                  rw [List.drop_of_length_le (Nat.le_refl _)] at hTe
                  have e1 : divG b m [] = [] := by cases m <;> rfl
                  rw [e1, placeL, List.append_nil] at hTe
                  subst hTe
                  refine ans_le (show k _ [] from h) ?_ ?_
                  · dsimp only [lsS, expo, encS, go_sem, Option.bind, Option.map, List.append_nil, Nat.beq, List.cons_append, List.nil_append, List.append_eq, List.map_cons, List.map_nil, ite_self, reduceIte]
                    simp only [leS_mk, leL_cons, leL_nil, le_junk, le_int, le_bool, le_nil, leLL_nil, leLL_cons, leH_cons, leH_nil, leH1_box, leH1_own, leH1_gone, le_vs, le_agg, le_tup, le_ptr, le_own, le_xp, le_fn, le_opt, le_val, le_elem, le_nil_own, le_nil_vs, leH_ghost, leL_chunk, leXL_id, bnd_int, bnd_bool, bnd_val, bnd_nil, bnd_junk, bnd_vs, bnd_xp, bnd_agg, bnd_tup, bnd_ptr, bnd_own, bnd_elem, bnd_fn, bnd_iface, bnd_opt, bndL_nil, bndL_cons, lenH_cons, lenH_nil, imp_self, implies_true, true_and, and_true]
                  · intro _; simp [freshS, freshL, encS, lsS]
  · exact h.1.elim
end Go.Proofs.Ytojaibhjfeojjaa

/- Layouts, walked: Order. -/
/- Layouts, walked: Order. -/
set_option linter.all false
namespace Go.Proofs.Ytojaibhjfeojjaa
open Go Go.Vx
set_option maxRecDepth 100000
set_option maxHeartbeats 4000000

def v14 : VF := { ntmps := 50, res := [.tmp 4, .tmp 5], body :=
 (.seq (.region [u1 2 .box [.tm 0],
 u1 4 .mov [.cn .nil],
 u1 5 .mov [.cn (.int .i64 0)]])
 (.seq (.seq (.region [u1 9 (.load false 1) [.tm 2],
 u1 10 (.cmp .lss) [.tm 9, .cn (.int .i64 0)],
 u1 11 .mov [.tm 10],
 u2 12 11 false (.load false 1) [.tm 2],
 u2 13 11 false (.cmp .gtr) [.tm 12, .cn (.int .i64 200)],
 u1 14 .or [.tm 11, .tm 13],
 u1 15 .mov [.tm 14],
 u2 16 15 false .mov [.tm 1],
 u2 17 15 false (.cmp .lss) [.tm 16, .cn (.int .i64 1)],
 u1 18 .or [.tm 15, .tm 17],
 u1 19 .mov [.tm 18],
 u2 20 19 false .mov [.tm 1],
 u2 21 19 false (.cmp .gtr) [.tm 20, .cn (.int .i64 4)],
 u1 22 .or [.tm 19, .tm 21]])
 (.cond (.tm 22) (.seq (.region [u1 4 .mov [.cn .nil],
 u1 5 .mov [.cn (.int .i64 2)]])
 .ret)
  .skip))
 (.seq (.region [u1 23 (.buildSlice 1 0 [(.int .i64 0)] []) [],
 u1 6 (.alloc [.nil]) [],
 u0 (.store 1) [.tm 6, .tm 23]])
 (.seq (.region [u1 24 (.mkfn (.func 42) 0) [.tm 6, .tm 2],
 u1 7 .mov [.tm 24]])
 (.seq (.seq (.region [u1 25 .mov [.tm 1]])
 (.block 0 (.seq (.region [u1 34 (.cmp .eql) [.tm 25, .cn (.int .i64 1)],
 u1 33 .mov [.tm 34]])
 (.cond (.tm 33) (.region [u1 35 .mov [.tm 7],
 u1 36 .callv [.tm 35, .cn (.int .i64 0), .cn (.int .i64 1), .cn (.bool false)]])
  (.seq (.region [u1 38 (.cmp .eql) [.tm 25, .cn (.int .i64 2)],
 u1 37 .mov [.tm 38]])
 (.cond (.tm 37) (.seq (.region [u1 39 .mov [.tm 7],
 u1 40 .callv [.tm 39, .cn (.int .i64 0), .cn (.int .i64 2), .cn (.bool false)]])
 (.region [u1 41 .mov [.tm 7],
 u1 42 .callv [.tm 41, .cn (.int .i64 1), .cn (.int .i64 2), .cn (.bool true)]]))
  (.seq (.region [u1 44 (.cmp .eql) [.tm 25, .cn (.int .i64 3)],
 u1 43 .mov [.tm 44]])
 (.cond (.tm 43) (.seq (.region [u1 45 .mov [.tm 7],
 u1 46 .callv [.tm 45, .cn (.int .i64 0), .cn (.int .i64 2), .cn (.bool true)]])
 (.region [u1 47 .mov [.tm 7],
 u1 48 .callv [.tm 47, .cn (.int .i64 1), .cn (.int .i64 2), .cn (.bool false)]]))
  (.seq (.region [u1 26 .mov [.cn (.int .i64 0)]])
 (.block 1 (.loop (.seq (.region [u1 27 (.cmp .lss) [.tm 26, .cn (.int .i64 4)]])
 (.seq (.cond (.tm 27) .skip
  (.exit 1))
 (.seq (.block 2 (.seq (.region [u1 28 .mov [.tm 26],
 u1 8 .mov [.tm 28]])
 (.region [u1 29 .mov [.tm 7],
 u1 30 .mov [.tm 8],
 u1 31 .callv [.tm 29, .tm 30, .cn (.int .i64 4), .cn (.bool false)]])))
 (.region [u1 32 (.ari .add) [.tm 26, .cn (.int .i64 1)],
 u1 26 .mov [.tm 32]])))))))))))))))
 (.seq (.region [u1 49 (.load false 1) [.tm 6],
 u1 4 .mov [.tm 49],
 u1 5 .mov [.cn (.int .i64 0)]])
 .ret)))))) }
theorem v14_is : vfunc Try.prog Try.f14 = some v14 := by kernel_rfl
def v42 : VF := { ntmps := 28, res := [], body :=
 (.seq (.region [u1 10 (.load false 1) [.tm 3],
 u1 11 .len [.tm 10],
 u1 8 .mov [.tm 11]])
 (.seq (.seq (.region [u1 12 .mov [.tm 0],
 u1 9 .mov [.tm 12]])
 (.block 0 (.loop (.seq (.seq (.region [u1 13 .mov [.tm 9],
 u1 14 (.load false 1) [.tm 4],
 u1 15 (.cmp .lss) [.tm 13, .tm 14]])
 (.cond (.tm 15) .skip
  (.exit 0)))
 (.seq (.block 1 (.region [u1 19 (.load false 1) [.tm 3],
 u1 20 .mov [.tm 9],
 u1 21 (.buildSlice 1 1 [(.int .i64 0)] [(0, 1)]) [.tm 20],
 u1 22 (.append 1 8 [(.int .i64 0)]) [.tm 19, .tm 21],
 u0 (.store 1) [.tm 3, .tm 22]]))
 (.region [u1 16 .mov [.tm 9],
 u1 17 .mov [.tm 1],
 u1 18 (.ari .add) [.tm 16, .tm 17],
 u1 9 .mov [.tm 18]]))))))
 (.seq (.region [u1 23 .mov [.tm 2]])
 (.cond (.tm 23) (.region [u1 24 (.load false 1) [.tm 3],
 u1 25 .mov [.tm 8],
 u1 26 (.slice 1 true false) [.tm 24, .tm 25],
 u1 27 (.call 43) [.tm 26]])
  .skip)))) }
theorem v42_is : vfunc Try.prog Try.f42 = some v42 := by kernel_rfl
def v43 : VF := { ntmps := 28, res := [], body :=
 (.seq (.region [u1 4 .mov [.tm 0],
 u1 5 .len [.tm 4],
 u1 6 (.ari .sub) [.tm 5, .cn (.int .i64 1)],
 u1 2 .mov [.cn (.int .i64 0)],
 u1 3 .mov [.tm 6]])
 (.block 0 (.loop (.seq (.seq (.region [u1 7 .mov [.tm 2],
 u1 8 .mov [.tm 3],
 u1 9 (.cmp .lss) [.tm 7, .tm 8]])
 (.cond (.tm 9) .skip
  (.exit 0)))
 (.seq (.block 1 (.draw [] [w1 14 .mov [.tm 0],
 w1 15 .mov [.tm 2],
 w1 16 .mov [.tm 0],
 w1 17 .mov [.tm 3],
 w1 18 .mov [.tm 0],
 w1 19 .mov [.tm 3],
 w1 20 (.idxAddr 1) [.tm 18, .tm 19],
 w1 21 (.load false 1) [.tm 20],
 w1 22 .mov [.tm 0],
 w1 23 .mov [.tm 2],
 w1 24 (.idxAddr 1) [.tm 22, .tm 23],
 w1 25 (.load false 1) [.tm 24],
 w1 26 (.idxAddr 1) [.tm 14, .tm 15],
 w0 (.store 1) [.tm 26, .tm 21],
 w1 27 (.idxAddr 1) [.tm 16, .tm 17],
 w0 (.store 1) [.tm 27, .tm 25]]))
 (.region [u1 10 .mov [.tm 2],
 u1 11 (.ari .add) [.tm 10, .cn (.int .i64 1)],
 u1 12 .mov [.tm 3],
 u1 13 (.ari .sub) [.tm 12, .cn (.int .i64 1)],
 u1 2 .mov [.tm 11],
 u1 3 .mov [.tm 13]])))))) }
theorem v43_is : vfunc Try.prog Try.f43 = some v43 := by kernel_rfl


theorem prog_len (a s c : Nat) : (progL a s c).length = c := by simp [progL]
theorem prog_succ (a s c : Nat) : progL a s (c + 1) = progL a s c ++ [a + c * s] := by simp [progL, List.range_succ]
theorem prog_0 (a s : Nat) : progL a s 0 = [] := rfl
/-- A part of a list, half turned. -/
def revL (L : List Nat) (A M t q : Nat) : Nat := if q < A then L.getD q default else if q - A < t ∨ M - 1 - t < q - A then L.getD (A + (M - 1 - (q - A))) default else L.getD q default
theorem rev_step {L : List Nat} {A M t u q : Nat} (hu : M - 1 - t = u) (ht : t < u) (hq : q < A + M) : revL L A M (t + 1) q = if q = A + u then revL L A M t (A + t) else if q = A + t then revL L A M t (A + u) else revL L A M t q := by
  have a1 : revL L A M t (A + t) = L.getD (A + t) default := by
    unfold revL; rw [if_neg (by omega), if_neg (by omega)]
  have a2 : revL L A M t (A + u) = L.getD (A + u) default := by
    unfold revL; rw [if_neg (by omega), if_neg (by omega)]
  rw [a1, a2]
  unfold revL
  by_cases h1 : q = A + u
  · subst h1
    rw [if_pos rfl, if_neg (by omega), if_pos (by omega)]
    congr 1; omega
  · rw [if_neg h1]
    by_cases h2 : q = A + t
    · subst h2
      rw [if_pos rfl, if_neg (by omega), if_pos (by omega)]
      congr 1; omega
    · rw [if_neg h2]
      by_cases h3 : q < A
      · rw [if_pos h3, if_pos h3]
      · rw [if_neg h3, if_neg h3]
        by_cases h4 : q - A < t ∨ M - 1 - t < q - A
        · rw [if_pos h4, if_pos (by omega)]
        · rw [if_neg h4, if_neg (by omega)]
theorem rev_0 {L : List Nat} {A M q : Nat} (h : q < A + M) : revL L A M 0 q = L.getD q default := by
  unfold revL
  split
  · rfl
  · rw [if_neg (by omega)]
theorem app_hi {L0 P : List Nat} {A p : Nat} (hA : L0.length = A) : (L0 ++ P).getD (A + p) default = P.getD p default := by
  rw [List.getD_eq_getElem?_getD, List.getElem?_append_right (by omega), hA, Nat.add_sub_cancel_left, ← List.getD_eq_getElem?_getD]
theorem app_lo {L0 P : List Nat} {q : Nat} (h : q < L0.length) : (L0 ++ P).getD q default = L0.getD q default := by
  rw [List.getD_eq_getElem?_getD, List.getElem?_append_left h, ← List.getD_eq_getElem?_getD]
theorem rev_get {P : List Nat} {M p : Nat} (hM : P.length = M) (h : p < M) : P.reverse.getD p default = P.getD (M - 1 - p) default := by
  rw [List.getD_eq_getElem?_getD, List.getElem?_reverse (by omega), hM, ← List.getD_eq_getElem?_getD]
theorem rev_end {L1 P : List Nat} {A M t q : Nat} (hA : L1.length = A) (hM : P.length = M) (h1 : 2 * t ≤ M) (h2 : M ≤ 2 * t + 1) (h : q < A + M) : revL (L1 ++ P) A M t q = (L1 ++ P.reverse).getD q default := by
  unfold revL
  split
  · rename_i hq
    rw [app_lo (by omega), app_lo (by omega)]
  · rename_i hq
    obtain ⟨p, rfl⟩ : ∃ p, q = A + p := ⟨q - A, by omega⟩
    rw [Nat.add_sub_cancel_left, app_hi hA, app_hi hA, app_hi hA, rev_get hM (by omega)]
    split
    · rfl
    · congr 1; omega
def accL (n : Nat) : Nat → List Nat
  | 0 => []
  | f + 1 => accL n f ++ classL n f 4
theorem acc_le {n : Nat} : ∀ (f : Nat), n ≤ 200 → f ≤ 4 → (accL n f).length ≤ 200 * f
  | 0, _, _ => Nat.zero_le _
  | f + 1, h, h4 => by
    have := acc_le f h (by omega)
    rw [accL, List.length_append, classL, prog_len]
    omega
theorem nb21 : Nat.beq 2 1 = false := rfl
theorem nb01 : Nat.beq 0 1 = false := rfl
def ordC : Ctr := { alias := false, of := fun l => match l with
  | [.int .i64 n, .int .i64 kd] => .all Bool fun z => .fin (.tup [.vs true z (orderR n kd).1.length 1 (fun k => encI ((orderR n kd).1.getD k default)), .int .i64 (orderR n kd).2]) []
  | _ => noC }
def K0 : Env := { ct := fun _ => none, fn := fun n => match n with | 42 => some v42 | 43 => some v43 | _ => none, meth := fun _ _ => none }
theorem K0_ct42 : K0.ct 42 = none := rfl
theorem K0_fn42 : K0.fn 42 = some v42 := rfl
theorem K0_ct43 : K0.ct 43 = none := rfl
theorem K0_fn43 : K0.fn 43 = some v43 := rfl
theorem K0_ok : EnvOk Try.prog K0 := by
  refine ⟨fun f c h => ?_, fun f vf h => ?_, (fun _ _ _ h => by cases h), by kernel_rfl⟩
  · cases h
  · simp only [K0] at h
    split at h
    · cases h; exact ⟨Try.f42, Try.func42, v42_is, Try.f42, Try.func42, by kernel_rfl, by kernel_rfl⟩
    · cases h; exact ⟨Try.f43, Try.func43, v43_is, Try.f43, Try.func43, by kernel_rfl, by kernel_rfl⟩
    · cases h

theorem ord_ok : ordC.ok Try.prog 14 := by
  refine contract Try.func14 v14_is K0_ok 400 ordC fun args k h => ⟨args, ?_⟩
  simp only [ordC] at h
  split at h
  · rename_i n kd
    refine ⟨by simp [leL, le], ?_⟩
    dsimp only [v14, v42, v43, K0_ct42, K0_fn42, K0_ct43, K0_fn43, go_sem, Option.bind, Option.map, List.append_nil, Nat.beq, List.cons_append, List.nil_append, List.append_eq, List.map_cons, List.map_nil, ite_self, reduceIte]
    simp only [true_and, and_true, imp_self, implies_true, decide_eq_true_eq, decide_eq_false_iff_not, Nat.reduceAdd, Nat.reduceLeDiff, Bool.not_not, reduceCtorEq, false_imp_iff, Bool.not_eq_true', Bool.not_eq_false', Bool.false_eq_true, and_self, forall_const, ne_eq, not_false_eq_true, Nat.reduceEqDiff]
    have h : ∀ z : Bool, k (.tup [.vs true z (orderR n kd).1.length 1 (fun k => encI ((orderR n kd).1.getD k default)), .int .i64 (orderR n kd).2]) [] := h
    unfold orderR at h
    refine ⟨fun hb => ?_, fun hb => ?_⟩
    · simp only [Bool.or_eq_true, decide_eq_true_eq] at hb
      rw [if_pos (by omega)] at h
      exact ans_le (h true) (by simp [expo, view, viewL, le, leL]) (fun _ => by simp [freshS, freshL])
    · simp only [Bool.or_eq_false_iff, decide_eq_false_iff_not] at hb
      rw [if_neg (by omega)] at h
      obtain ⟨n, rfl⟩ := Int.eq_ofNat_of_zero_le (show 0 ≤ n by omega)
      obtain ⟨kd, rfl⟩ := Int.eq_ofNat_of_zero_le (show 0 ≤ kd by omega)
      simp only [Int.toNat_natCast] at h
      have hkd : kd = 1 ∨ kd = 2 ∨ kd = 3 ∨ kd = 4 := by omega
      have hn : n ≤ 200 := by omega
      refine ⟨by decide, fun hk => ?_, fun hk => ⟨fun hk2 => ?_, fun hk2 => ⟨fun hk3 => ?_, fun hk3 => ?_⟩⟩⟩
      · obtain rfl : kd = 1 := by omega
        refine Loop.keepP 1 [0, 0, 0, 0, 0, 3] Nat (fun c => [(9, .int .i64 ((0 + c * 1 : Nat) : Int))]) (fun c => [(1, .own false 1 (0 + c) (fun q => encI ((([] : List Nat) ++ progL (0) 1 c).getD q default))), (2, .box [.own 1 0 (0 + c) 1])]) [] (fun c => c ≤ (n - (0) + 1 - 1) / 1) (fun c => (n - (0) + 1 - 1) / 1 - c) ?_ ?_
        · refine ⟨0, Nat.zero_le _, ?_⟩
          dsimp only [go_sem, Option.bind, Option.map, List.append_nil, Nat.beq, List.cons_append, List.nil_append, List.append_eq, List.map_cons, List.map_nil, ite_self, reduceIte]
          simp only [Bool.or_self, leS_mk, leL_cons, leL_nil, le_junk, le_int, le_bool, le_nil, leLL_nil, leLL_cons, leH_cons, leH_nil, leH1_box, leH1_own, leH1_gone, le_vs, le_agg, le_tup, le_ptr, le_own, le_xp, le_fn, le_opt, le_val, le_elem, le_nil_own, le_nil_vs, leH_ghost, leL_chunk, leXL_id, bnd_int, bnd_bool, bnd_val, bnd_nil, bnd_junk, bnd_vs, bnd_xp, bnd_agg, bnd_tup, bnd_ptr, bnd_own, bnd_elem, bnd_fn, bnd_iface, bnd_opt, bndL_nil, bndL_cons, lenH_cons, lenH_nil, imp_self, implies_true, true_and, and_true]
          simp [prog_0, leL, le, encI]
        · rintro c hc
          dsimp only [v42, v43, K0_ct42, K0_fn42, K0_ct43, K0_fn43, encI, Int.toNat_natCast, go_sem, Option.bind, Option.map, List.append_nil, Nat.beq, List.cons_append, List.nil_append, List.append_eq, List.map_cons, List.map_nil, ite_self, reduceIte]
          simp only [true_and, and_true, imp_self, implies_true, decide_eq_true_eq, decide_eq_false_iff_not, Nat.reduceAdd, Nat.reduceLeDiff, Bool.not_not, reduceCtorEq, false_imp_iff, Bool.not_eq_true', Bool.not_eq_false', Bool.false_eq_true, and_self, forall_const, ne_eq, not_false_eq_true, Nat.reduceEqDiff]
          refine ⟨fun hlt => ?_, fun hge => ?_⟩
          · refine ⟨by decide, ⟨by unfold capOk; omega, fun q hq => match q, hq with | 0, _ => ⟨rfl, trivial, trivial⟩⟩, c + 1, by omega, by omega, ?_⟩
            have hw : IntKind.i64.wrap (((0 + c * 1 : Nat) : Int) + 1) = ((0 + (c + 1) * 1 : Nat) : Int) := by rw [mid_w (by omega)]; omega
            simp only [Bool.or_self, refs, refsL, nb21, nb01, hw, leS_mk, leL_cons, leL_nil, le_junk, le_int, le_bool, le_nil, leLL_nil, leLL_cons, leH_cons, leH_nil, leH1_box, leH1_own, leH1_gone, le_vs, le_agg, le_tup, le_ptr, le_own, le_xp, le_fn, le_opt, le_val, le_elem, le_nil_own, le_nil_vs, leH_ghost, leL_chunk, leXL_id, bnd_int, bnd_bool, bnd_val, bnd_nil, bnd_junk, bnd_vs, bnd_xp, bnd_agg, bnd_tup, bnd_ptr, bnd_own, bnd_elem, bnd_fn, bnd_iface, bnd_opt, bndL_nil, bndL_cons, lenH_cons, lenH_nil, imp_self, implies_true, true_and, and_true]
            have e1 : ([] : List Nat) ++ progL (0) 1 (c + 1) = (([] : List Nat) ++ progL (0) 1 c) ++ [0 + c * 1] := by rw [prog_succ, List.append_assoc]
            have e2 : (([] : List Nat) ++ progL (0) 1 c).length = 0 + c := by rw [List.length_append, prog_len]; simp
            have e3 : ∀ q, q < 0 + c + 1 → leL (0 + 1 + 1 + 1 + 1) (0 + 1 + 1 + 1) (if q < 0 + c then [SV.int IntKind.i64 (((([] : List Nat) ++ progL (0) 1 c).getD q default : Nat) : Int)] else purgeL 1 (takeL 1 (dropL ((q - (0 + c)) * 1) [SV.int IntKind.i64 ((0 + c * 1 : Nat) : Int)]))) [SV.int IntKind.i64 (((([] : List Nat) ++ progL (0) 1 (c + 1)).getD q default : Nat) : Int)] := by
              intro q hq
              rw [e1, getD_app, e2]
              rcases Nat.lt_or_ge q (0 + c) with h' | h'
              · rw [if_pos h', if_pos h']; exact leL_self [.int _ _] ⟨trivial, trivial⟩
              · obtain rfl : q = 0 + c := by omega
                rw [if_neg (by omega), if_neg (by omega), if_pos rfl, Nat.sub_self]
                exact leL_self [.int _ _] ⟨trivial, trivial⟩
            exact ⟨by omega, by omega, ⟨rfl, by omega, e3⟩, by omega, by omega⟩
          · obtain rfl : c = (n - (0) + 1 - 1) / 1 := by omega
            have hT : orderL n 1 = ([] : List Nat) ++ progL (0) 1 ((n - (0) + 1 - 1) / 1) := rfl
            rw [hT] at h
            refine ans_le (h false) ?_ ?_
            · dsimp only [expo, encI, go_sem, Option.bind, Option.map, List.append_nil, Nat.beq, List.cons_append, List.nil_append, List.append_eq, List.map_cons, List.map_nil, ite_self, reduceIte]
              simp only [List.length_append, prog_len, leS_mk, leL_cons, leL_nil, le_junk, le_int, le_bool, le_nil, leLL_nil, leLL_cons, leH_cons, leH_nil, leH1_box, leH1_own, leH1_gone, le_vs, le_agg, le_tup, le_ptr, le_own, le_xp, le_fn, le_opt, le_val, le_elem, le_nil_own, le_nil_vs, leH_ghost, leL_chunk, leXL_id, bnd_int, bnd_bool, bnd_val, bnd_nil, bnd_junk, bnd_vs, bnd_xp, bnd_agg, bnd_tup, bnd_ptr, bnd_own, bnd_elem, bnd_fn, bnd_iface, bnd_opt, bndL_nil, bndL_cons, lenH_cons, lenH_nil, imp_self, implies_true, true_and, and_true]
              simp
            · intro _; simp [freshS, freshL, encI]
      · obtain rfl : kd = 2 := by omega
        refine Loop.keepP 1 [0, 0, 0, 0, 0, 3] Nat (fun c => [(9, .int .i64 ((0 + c * 2 : Nat) : Int))]) (fun c => [(1, .own false 1 (0 + c) (fun q => encI ((([] : List Nat) ++ progL (0) 2 c).getD q default))), (2, .box [.own 1 0 (0 + c) 1])]) [] (fun c => c ≤ (n - (0) + 2 - 1) / 2) (fun c => (n - (0) + 2 - 1) / 2 - c) ?_ ?_
        · refine ⟨0, Nat.zero_le _, ?_⟩
          dsimp only [go_sem, Option.bind, Option.map, List.append_nil, Nat.beq, List.cons_append, List.nil_append, List.append_eq, List.map_cons, List.map_nil, ite_self, reduceIte]
          simp only [Bool.or_self, leS_mk, leL_cons, leL_nil, le_junk, le_int, le_bool, le_nil, leLL_nil, leLL_cons, leH_cons, leH_nil, leH1_box, leH1_own, leH1_gone, le_vs, le_agg, le_tup, le_ptr, le_own, le_xp, le_fn, le_opt, le_val, le_elem, le_nil_own, le_nil_vs, leH_ghost, leL_chunk, leXL_id, bnd_int, bnd_bool, bnd_val, bnd_nil, bnd_junk, bnd_vs, bnd_xp, bnd_agg, bnd_tup, bnd_ptr, bnd_own, bnd_elem, bnd_fn, bnd_iface, bnd_opt, bndL_nil, bndL_cons, lenH_cons, lenH_nil, imp_self, implies_true, true_and, and_true]
          simp [prog_0, leL, le, encI]
        · rintro c hc
          dsimp only [v42, v43, K0_ct42, K0_fn42, K0_ct43, K0_fn43, encI, Int.toNat_natCast, go_sem, Option.bind, Option.map, List.append_nil, Nat.beq, List.cons_append, List.nil_append, List.append_eq, List.map_cons, List.map_nil, ite_self, reduceIte]
          simp only [true_and, and_true, imp_self, implies_true, decide_eq_true_eq, decide_eq_false_iff_not, Nat.reduceAdd, Nat.reduceLeDiff, Bool.not_not, reduceCtorEq, false_imp_iff, Bool.not_eq_true', Bool.not_eq_false', Bool.false_eq_true, and_self, forall_const, ne_eq, not_false_eq_true, Nat.reduceEqDiff]
          refine ⟨fun hlt => ?_, fun hge => ?_⟩
          · refine ⟨by decide, ⟨by unfold capOk; omega, fun q hq => match q, hq with | 0, _ => ⟨rfl, trivial, trivial⟩⟩, c + 1, by omega, by omega, ?_⟩
            have hw : IntKind.i64.wrap (((0 + c * 2 : Nat) : Int) + 2) = ((0 + (c + 1) * 2 : Nat) : Int) := by rw [mid_w (by omega)]; omega
            simp only [Bool.or_self, refs, refsL, nb21, nb01, hw, leS_mk, leL_cons, leL_nil, le_junk, le_int, le_bool, le_nil, leLL_nil, leLL_cons, leH_cons, leH_nil, leH1_box, leH1_own, leH1_gone, le_vs, le_agg, le_tup, le_ptr, le_own, le_xp, le_fn, le_opt, le_val, le_elem, le_nil_own, le_nil_vs, leH_ghost, leL_chunk, leXL_id, bnd_int, bnd_bool, bnd_val, bnd_nil, bnd_junk, bnd_vs, bnd_xp, bnd_agg, bnd_tup, bnd_ptr, bnd_own, bnd_elem, bnd_fn, bnd_iface, bnd_opt, bndL_nil, bndL_cons, lenH_cons, lenH_nil, imp_self, implies_true, true_and, and_true]
            have e1 : ([] : List Nat) ++ progL (0) 2 (c + 1) = (([] : List Nat) ++ progL (0) 2 c) ++ [0 + c * 2] := by rw [prog_succ, List.append_assoc]
            have e2 : (([] : List Nat) ++ progL (0) 2 c).length = 0 + c := by rw [List.length_append, prog_len]; simp
            have e3 : ∀ q, q < 0 + c + 1 → leL (0 + 1 + 1 + 1 + 1) (0 + 1 + 1 + 1) (if q < 0 + c then [SV.int IntKind.i64 (((([] : List Nat) ++ progL (0) 2 c).getD q default : Nat) : Int)] else purgeL 1 (takeL 1 (dropL ((q - (0 + c)) * 1) [SV.int IntKind.i64 ((0 + c * 2 : Nat) : Int)]))) [SV.int IntKind.i64 (((([] : List Nat) ++ progL (0) 2 (c + 1)).getD q default : Nat) : Int)] := by
              intro q hq
              rw [e1, getD_app, e2]
              rcases Nat.lt_or_ge q (0 + c) with h' | h'
              · rw [if_pos h', if_pos h']; exact leL_self [.int _ _] ⟨trivial, trivial⟩
              · obtain rfl : q = 0 + c := by omega
                rw [if_neg (by omega), if_neg (by omega), if_pos rfl, Nat.sub_self]
                exact leL_self [.int _ _] ⟨trivial, trivial⟩
            exact ⟨by omega, by omega, ⟨rfl, by omega, e3⟩, by omega, by omega⟩
          · obtain rfl : c = (n - (0) + 2 - 1) / 2 := by omega
            generalize hA : (n - 0 + 2 - 1) / 2 = A at *
            simp only [Nat.zero_add]
            refine Loop.keepP 1 [0, 0, 0, 0, 0, 3] Nat (fun c => [(9, .int .i64 ((1 + c * 2 : Nat) : Int))]) (fun c => [(1, .own false 1 (A + c) (fun q => encI (((progL 0 2 A) ++ progL (1) 2 c).getD q default))), (2, .box [.own 1 0 (A + c) 1])]) [] (fun c => c ≤ (n - (1) + 2 - 1) / 2) (fun c => (n - (1) + 2 - 1) / 2 - c) ?_ ?_
            · refine ⟨0, Nat.zero_le _, ?_⟩
              dsimp only [go_sem, Option.bind, Option.map, List.append_nil, Nat.beq, List.cons_append, List.nil_append, List.append_eq, List.map_cons, List.map_nil, ite_self, reduceIte]
              simp only [Bool.or_self, leS_mk, leL_cons, leL_nil, le_junk, le_int, le_bool, le_nil, leLL_nil, leLL_cons, leH_cons, leH_nil, leH1_box, leH1_own, leH1_gone, le_vs, le_agg, le_tup, le_ptr, le_own, le_xp, le_fn, le_opt, le_val, le_elem, le_nil_own, le_nil_vs, leH_ghost, leL_chunk, leXL_id, bnd_int, bnd_bool, bnd_val, bnd_nil, bnd_junk, bnd_vs, bnd_xp, bnd_agg, bnd_tup, bnd_ptr, bnd_own, bnd_elem, bnd_fn, bnd_iface, bnd_opt, bndL_nil, bndL_cons, lenH_cons, lenH_nil, imp_self, implies_true, true_and, and_true]
              exact ⟨by omega, by omega, ⟨by omega, fun q hq => by rw [prog_0, List.append_nil]; exact leL_self [.int _ _] ⟨trivial, trivial⟩⟩, by omega, by omega⟩
            · rintro c hc
              dsimp only [v42, v43, K0_ct42, K0_fn42, K0_ct43, K0_fn43, encI, Int.toNat_natCast, go_sem, Option.bind, Option.map, List.append_nil, Nat.beq, List.cons_append, List.nil_append, List.append_eq, List.map_cons, List.map_nil, ite_self, reduceIte]
              simp only [true_and, and_true, imp_self, implies_true, decide_eq_true_eq, decide_eq_false_iff_not, Nat.reduceAdd, Nat.reduceLeDiff, Bool.not_not, reduceCtorEq, false_imp_iff, Bool.not_eq_true', Bool.not_eq_false', Bool.false_eq_true, and_self, forall_const, ne_eq, not_false_eq_true, Nat.reduceEqDiff]
              refine ⟨fun hlt => ?_, fun hge => ?_⟩
              · refine ⟨by decide, ⟨by unfold capOk; omega, fun q hq => match q, hq with | 0, _ => ⟨rfl, trivial, trivial⟩⟩, c + 1, by omega, by omega, ?_⟩
                have hw : IntKind.i64.wrap (((1 + c * 2 : Nat) : Int) + 2) = ((1 + (c + 1) * 2 : Nat) : Int) := by rw [mid_w (by omega)]; omega
                simp only [Bool.or_self, refs, refsL, nb21, nb01, hw, leS_mk, leL_cons, leL_nil, le_junk, le_int, le_bool, le_nil, leLL_nil, leLL_cons, leH_cons, leH_nil, leH1_box, leH1_own, leH1_gone, le_vs, le_agg, le_tup, le_ptr, le_own, le_xp, le_fn, le_opt, le_val, le_elem, le_nil_own, le_nil_vs, leH_ghost, leL_chunk, leXL_id, bnd_int, bnd_bool, bnd_val, bnd_nil, bnd_junk, bnd_vs, bnd_xp, bnd_agg, bnd_tup, bnd_ptr, bnd_own, bnd_elem, bnd_fn, bnd_iface, bnd_opt, bndL_nil, bndL_cons, lenH_cons, lenH_nil, imp_self, implies_true, true_and, and_true]
                have e1 : (progL 0 2 A) ++ progL (1) 2 (c + 1) = ((progL 0 2 A) ++ progL (1) 2 c) ++ [1 + c * 2] := by rw [prog_succ, List.append_assoc]
                have e2 : ((progL 0 2 A) ++ progL (1) 2 c).length = A + c := by rw [List.length_append, prog_len]; rw [prog_len]
                have e3 : ∀ q, q < A + c + 1 → leL (0 + 1 + 1 + 1 + 1) (0 + 1 + 1 + 1) (if q < A + c then [SV.int IntKind.i64 ((((progL 0 2 A) ++ progL (1) 2 c).getD q default : Nat) : Int)] else purgeL 1 (takeL 1 (dropL ((q - (A + c)) * 1) [SV.int IntKind.i64 ((1 + c * 2 : Nat) : Int)]))) [SV.int IntKind.i64 ((((progL 0 2 A) ++ progL (1) 2 (c + 1)).getD q default : Nat) : Int)] := by
                  intro q hq
                  rw [e1, getD_app, e2]
                  rcases Nat.lt_or_ge q (A + c) with h' | h'
                  · rw [if_pos h', if_pos h']; exact leL_self [.int _ _] ⟨trivial, trivial⟩
                  · obtain rfl : q = A + c := by omega
                    rw [if_neg (by omega), if_neg (by omega), if_pos rfl, Nat.sub_self]
                    exact leL_self [.int _ _] ⟨trivial, trivial⟩
                exact ⟨by omega, by omega, ⟨rfl, by omega, e3⟩, by omega, by omega⟩
              · obtain rfl : c = (n - (1) + 2 - 1) / 2 := by omega
                generalize hM : (n - 1 + 2 - 1) / 2 = M at *
                refine ⟨⟨by omega, by omega⟩, ?_⟩
                simp only [subLo_eq, Nat.add_sub_cancel_left, Nat.add_sub_cancel_left]
                have ew : IntKind.i64.wrap ((M : Int) - 1) = (M : Int) - 1 := mid_w (by omega)
                simp only [ew]
                refine Loop.keep [0, 1, 0] Nat (fun t => [(2, .int .i64 t), (3, .int .i64 ((M : Int) - 1 - t))]) (fun t => [(1, .own false 1 (A + M) (fun q => encI (revL (progL 0 2 A ++ progL 1 2 M) A M t q)))]) [] (fun t => 2 * t ≤ M) (fun t => M - t) ?_ ?_
                · refine ⟨0, by omega, ?_⟩
                  dsimp only [go_sem, Option.bind, Option.map, List.append_nil, Nat.beq, List.cons_append, List.nil_append, List.append_eq, List.map_cons, List.map_nil, ite_self, reduceIte]
                  simp only [leS_mk, leL_cons, leL_nil, le_junk, le_int, le_bool, le_nil, leLL_nil, leLL_cons, leH_cons, leH_nil, leH1_box, leH1_own, leH1_gone, le_vs, le_agg, le_tup, le_ptr, le_own, le_xp, le_fn, le_opt, le_val, le_elem, le_nil_own, le_nil_vs, leH_ghost, leL_chunk, leXL_id, bnd_int, bnd_bool, bnd_val, bnd_nil, bnd_junk, bnd_vs, bnd_xp, bnd_agg, bnd_tup, bnd_ptr, bnd_own, bnd_elem, bnd_fn, bnd_iface, bnd_opt, bndL_nil, bndL_cons, lenH_cons, lenH_nil, imp_self, implies_true, true_and, and_true]
                  exact ⟨⟨by omega, rfl, by omega⟩, ⟨by omega, by omega⟩, ⟨fun q hq => by rw [rev_0 (by omega)]; exact leL_self [.int _ _] ⟨trivial, trivial⟩, by omega⟩⟩
                · rintro t ht
                  dsimp only [v42, v43, K0_ct42, K0_fn42, K0_ct43, K0_fn43, encI, Int.toNat_natCast, go_sem, Option.bind, Option.map, List.append_nil, Nat.beq, List.cons_append, List.nil_append, List.append_eq, List.map_cons, List.map_nil, ite_self, reduceIte]
                  simp only [true_and, and_true, imp_self, implies_true, decide_eq_true_eq, decide_eq_false_iff_not, Nat.reduceAdd, Nat.reduceLeDiff, Bool.not_not, reduceCtorEq, false_imp_iff, Bool.not_eq_true', Bool.not_eq_false', Bool.false_eq_true, and_self, forall_const, ne_eq, not_false_eq_true, Nat.reduceEqDiff]
                  refine ⟨fun hlt => ?_, fun hge => ?_⟩
                  · obtain ⟨u, hu⟩ : ∃ u : Nat, (M : Int) - 1 - (t : Int) = (u : Int) := ⟨M - 1 - t, by omega⟩
                    simp only [hu, Int.toNat_natCast, addLo_eq]
                    refine ⟨⟨by omega, by omega⟩, by omega, ⟨by omega, by omega⟩, by omega, ⟨by omega, by omega⟩, by omega, ⟨by omega, by omega⟩, by omega, t + 1, by omega, by omega, ?_⟩
                    have w1 : IntKind.i64.wrap ((t : Int) + 1) = ((t + 1 : Nat) : Int) := by rw [mid_w (by omega)]; omega
                    have w2 : IntKind.i64.wrap ((u : Int) - 1) = (M : Int) - 1 - ((t + 1 : Nat) : Int) := by rw [mid_w (by omega)]; omega
                    have hs : ∀ q, q < (A + M) → revL (progL 0 2 A ++ progL 1 2 M) A M (t + 1) q = if q = A + u then revL (progL 0 2 A ++ progL 1 2 M) A M t (A + t) else if q = A + t then revL (progL 0 2 A ++ progL 1 2 M) A M t (A + u) else revL (progL 0 2 A ++ progL 1 2 M) A M t q := fun q hq => rev_step (by omega) (by omega) (by omega)
                    simp only [w1, w2, if_neg (show ¬ A + u = A + t by omega)]
                    dsimp only [go_sem, Option.bind, Option.map, List.append_nil, Nat.beq, List.cons_append, List.nil_append, List.append_eq, List.map_cons, List.map_nil, ite_self, reduceIte]
                    simp only [leS_mk, leL_cons, leL_nil, le_junk, le_int, le_bool, le_nil, leLL_nil, leLL_cons, leH_cons, leH_nil, leH1_box, leH1_own, leH1_gone, le_vs, le_agg, le_tup, le_ptr, le_own, le_xp, le_fn, le_opt, le_val, le_elem, le_nil_own, le_nil_vs, leH_ghost, leL_chunk, leXL_id, bnd_int, bnd_bool, bnd_val, bnd_nil, bnd_junk, bnd_vs, bnd_xp, bnd_agg, bnd_tup, bnd_ptr, bnd_own, bnd_elem, bnd_fn, bnd_iface, bnd_opt, bndL_nil, bndL_cons, lenH_cons, lenH_nil, imp_self, implies_true, true_and, and_true]
                    refine ⟨by omega, ⟨by omega, by omega⟩, fun q hq => ?_, by omega⟩
                    rw [hs q hq]
                    by_cases h1 : q = A + u
                    · simp only [if_pos h1]; exact leL_self [.int _ _] ⟨trivial, trivial⟩
                    · by_cases h2 : q = A + t
                      · simp only [if_neg h1, if_pos h2]; exact leL_self [.int _ _] ⟨trivial, trivial⟩
                      · simp only [if_neg h1, if_neg h2]; exact leL_self [.int _ _] ⟨trivial, trivial⟩
                  · have hge2 := hge
                    have hT : orderL n 2 = progL 0 2 ((n - 0 + 2 - 1) / 2) ++ (progL 1 2 ((n - 1 + 2 - 1) / 2)).reverse := rfl
                    rw [hA, hM] at hT
                    rw [hT] at h
                    refine ans_le (h false) ?_ ?_
                    · dsimp only [expo, encI, go_sem, Option.bind, Option.map, List.append_nil, Nat.beq, List.cons_append, List.nil_append, List.append_eq, List.map_cons, List.map_nil, ite_self, reduceIte]
                      simp only [List.length_append, List.length_reverse, prog_len, leS_mk, leL_cons, leL_nil, le_junk, le_int, le_bool, le_nil, leLL_nil, leLL_cons, leH_cons, leH_nil, leH1_box, leH1_own, leH1_gone, le_vs, le_agg, le_tup, le_ptr, le_own, le_xp, le_fn, le_opt, le_val, le_elem, le_nil_own, le_nil_vs, leH_ghost, leL_chunk, leXL_id, bnd_int, bnd_bool, bnd_val, bnd_nil, bnd_junk, bnd_vs, bnd_xp, bnd_agg, bnd_tup, bnd_ptr, bnd_own, bnd_elem, bnd_fn, bnd_iface, bnd_opt, bndL_nil, bndL_cons, lenH_cons, lenH_nil, imp_self, implies_true, true_and, and_true]
                      try simp only [true_and]
                      intro q hq
                      rw [rev_end (L1 := progL 0 2 A) (P := progL (1) 2 M) (prog_len _ _ _) (prog_len _ _ _) (by omega) (by omega) hq]
                      exact leXL_self _
                    · intro _; simp [freshS, freshL, encI]
      · obtain rfl : kd = 3 := by omega
        refine Loop.keepP 1 [0, 0, 0, 0, 0, 3] Nat (fun c => [(9, .int .i64 ((0 + c * 2 : Nat) : Int))]) (fun c => [(1, .own false 1 (0 + c) (fun q => encI ((([] : List Nat) ++ progL (0) 2 c).getD q default))), (2, .box [.own 1 0 (0 + c) 1])]) [] (fun c => c ≤ (n - (0) + 2 - 1) / 2) (fun c => (n - (0) + 2 - 1) / 2 - c) ?_ ?_
        · refine ⟨0, Nat.zero_le _, ?_⟩
          dsimp only [go_sem, Option.bind, Option.map, List.append_nil, Nat.beq, List.cons_append, List.nil_append, List.append_eq, List.map_cons, List.map_nil, ite_self, reduceIte]
          simp only [Bool.or_self, leS_mk, leL_cons, leL_nil, le_junk, le_int, le_bool, le_nil, leLL_nil, leLL_cons, leH_cons, leH_nil, leH1_box, leH1_own, leH1_gone, le_vs, le_agg, le_tup, le_ptr, le_own, le_xp, le_fn, le_opt, le_val, le_elem, le_nil_own, le_nil_vs, leH_ghost, leL_chunk, leXL_id, bnd_int, bnd_bool, bnd_val, bnd_nil, bnd_junk, bnd_vs, bnd_xp, bnd_agg, bnd_tup, bnd_ptr, bnd_own, bnd_elem, bnd_fn, bnd_iface, bnd_opt, bndL_nil, bndL_cons, lenH_cons, lenH_nil, imp_self, implies_true, true_and, and_true]
          simp [prog_0, leL, le, encI]
        · rintro c hc
          dsimp only [v42, v43, K0_ct42, K0_fn42, K0_ct43, K0_fn43, encI, Int.toNat_natCast, go_sem, Option.bind, Option.map, List.append_nil, Nat.beq, List.cons_append, List.nil_append, List.append_eq, List.map_cons, List.map_nil, ite_self, reduceIte]
          simp only [true_and, and_true, imp_self, implies_true, decide_eq_true_eq, decide_eq_false_iff_not, Nat.reduceAdd, Nat.reduceLeDiff, Bool.not_not, reduceCtorEq, false_imp_iff, Bool.not_eq_true', Bool.not_eq_false', Bool.false_eq_true, and_self, forall_const, ne_eq, not_false_eq_true, Nat.reduceEqDiff]
          refine ⟨fun hlt => ?_, fun hge => ?_⟩
          · refine ⟨by decide, ⟨by unfold capOk; omega, fun q hq => match q, hq with | 0, _ => ⟨rfl, trivial, trivial⟩⟩, c + 1, by omega, by omega, ?_⟩
            have hw : IntKind.i64.wrap (((0 + c * 2 : Nat) : Int) + 2) = ((0 + (c + 1) * 2 : Nat) : Int) := by rw [mid_w (by omega)]; omega
            simp only [Bool.or_self, refs, refsL, nb21, nb01, hw, leS_mk, leL_cons, leL_nil, le_junk, le_int, le_bool, le_nil, leLL_nil, leLL_cons, leH_cons, leH_nil, leH1_box, leH1_own, leH1_gone, le_vs, le_agg, le_tup, le_ptr, le_own, le_xp, le_fn, le_opt, le_val, le_elem, le_nil_own, le_nil_vs, leH_ghost, leL_chunk, leXL_id, bnd_int, bnd_bool, bnd_val, bnd_nil, bnd_junk, bnd_vs, bnd_xp, bnd_agg, bnd_tup, bnd_ptr, bnd_own, bnd_elem, bnd_fn, bnd_iface, bnd_opt, bndL_nil, bndL_cons, lenH_cons, lenH_nil, imp_self, implies_true, true_and, and_true]
            have e1 : ([] : List Nat) ++ progL (0) 2 (c + 1) = (([] : List Nat) ++ progL (0) 2 c) ++ [0 + c * 2] := by rw [prog_succ, List.append_assoc]
            have e2 : (([] : List Nat) ++ progL (0) 2 c).length = 0 + c := by rw [List.length_append, prog_len]; simp
            have e3 : ∀ q, q < 0 + c + 1 → leL (0 + 1 + 1 + 1 + 1) (0 + 1 + 1 + 1) (if q < 0 + c then [SV.int IntKind.i64 (((([] : List Nat) ++ progL (0) 2 c).getD q default : Nat) : Int)] else purgeL 1 (takeL 1 (dropL ((q - (0 + c)) * 1) [SV.int IntKind.i64 ((0 + c * 2 : Nat) : Int)]))) [SV.int IntKind.i64 (((([] : List Nat) ++ progL (0) 2 (c + 1)).getD q default : Nat) : Int)] := by
              intro q hq
              rw [e1, getD_app, e2]
              rcases Nat.lt_or_ge q (0 + c) with h' | h'
              · rw [if_pos h', if_pos h']; exact leL_self [.int _ _] ⟨trivial, trivial⟩
              · obtain rfl : q = 0 + c := by omega
                rw [if_neg (by omega), if_neg (by omega), if_pos rfl, Nat.sub_self]
                exact leL_self [.int _ _] ⟨trivial, trivial⟩
            exact ⟨by omega, by omega, ⟨rfl, by omega, e3⟩, by omega, by omega⟩
          · obtain rfl : c = (n - (0) + 2 - 1) / 2 := by omega
            generalize hM : (n - 0 + 2 - 1) / 2 = M at *
            refine ⟨⟨by omega, by omega⟩, ?_⟩
            simp only [subLo_eq, Nat.add_sub_cancel_left, Nat.zero_add]
            have ew : IntKind.i64.wrap ((M : Int) - 1) = (M : Int) - 1 := mid_w (by omega)
            simp only [ew]
            refine Loop.keep [0, 1, 0] Nat (fun t => [(2, .int .i64 t), (3, .int .i64 ((M : Int) - 1 - t))]) (fun t => [(1, .own false 1 M (fun q => encI (revL (progL 0 2 M) 0 M t q)))]) [] (fun t => 2 * t ≤ M) (fun t => M - t) ?_ ?_
            · refine ⟨0, by omega, ?_⟩
              dsimp only [go_sem, Option.bind, Option.map, List.append_nil, Nat.beq, List.cons_append, List.nil_append, List.append_eq, List.map_cons, List.map_nil, ite_self, reduceIte]
              simp only [leS_mk, leL_cons, leL_nil, le_junk, le_int, le_bool, le_nil, leLL_nil, leLL_cons, leH_cons, leH_nil, leH1_box, leH1_own, leH1_gone, le_vs, le_agg, le_tup, le_ptr, le_own, le_xp, le_fn, le_opt, le_val, le_elem, le_nil_own, le_nil_vs, leH_ghost, leL_chunk, leXL_id, bnd_int, bnd_bool, bnd_val, bnd_nil, bnd_junk, bnd_vs, bnd_xp, bnd_agg, bnd_tup, bnd_ptr, bnd_own, bnd_elem, bnd_fn, bnd_iface, bnd_opt, bndL_nil, bndL_cons, lenH_cons, lenH_nil, imp_self, implies_true, true_and, and_true]
              exact ⟨⟨by omega, rfl, by omega⟩, ⟨by omega, by omega⟩, ⟨fun q hq => by rw [rev_0 (by omega)]; exact leL_self [.int _ _] ⟨trivial, trivial⟩, by omega⟩⟩
            · rintro t ht
              dsimp only [v42, v43, K0_ct42, K0_fn42, K0_ct43, K0_fn43, encI, Int.toNat_natCast, go_sem, Option.bind, Option.map, List.append_nil, Nat.beq, List.cons_append, List.nil_append, List.append_eq, List.map_cons, List.map_nil, ite_self, reduceIte]
              simp only [true_and, and_true, imp_self, implies_true, decide_eq_true_eq, decide_eq_false_iff_not, Nat.reduceAdd, Nat.reduceLeDiff, Bool.not_not, reduceCtorEq, false_imp_iff, Bool.not_eq_true', Bool.not_eq_false', Bool.false_eq_true, and_self, forall_const, ne_eq, not_false_eq_true, Nat.reduceEqDiff]
              refine ⟨fun hlt => ?_, fun hge => ?_⟩
              · obtain ⟨u, hu⟩ : ∃ u : Nat, (M : Int) - 1 - (t : Int) = (u : Int) := ⟨M - 1 - t, by omega⟩
                simp only [hu, Int.toNat_natCast, addLo_eq]
                refine ⟨⟨by omega, by omega⟩, by omega, ⟨by omega, by omega⟩, by omega, ⟨by omega, by omega⟩, by omega, ⟨by omega, by omega⟩, by omega, t + 1, by omega, by omega, ?_⟩
                have w1 : IntKind.i64.wrap ((t : Int) + 1) = ((t + 1 : Nat) : Int) := by rw [mid_w (by omega)]; omega
                have w2 : IntKind.i64.wrap ((u : Int) - 1) = (M : Int) - 1 - ((t + 1 : Nat) : Int) := by rw [mid_w (by omega)]; omega
                have hs : ∀ q, q < M → revL (progL 0 2 M) 0 M (t + 1) q = if q = u then revL (progL 0 2 M) 0 M t (t) else if q = t then revL (progL 0 2 M) 0 M t (u) else revL (progL 0 2 M) 0 M t q := fun q hq => by have e := rev_step (L := progL 0 2 M) (A := 0) (M := M) (t := t) (u := u) (q := q) (by omega) (by omega) (by omega); simpa only [Nat.zero_add] using e
                simp only [w1, w2, if_neg (show ¬ u = t by omega)]
                dsimp only [go_sem, Option.bind, Option.map, List.append_nil, Nat.beq, List.cons_append, List.nil_append, List.append_eq, List.map_cons, List.map_nil, ite_self, reduceIte]
                simp only [leS_mk, leL_cons, leL_nil, le_junk, le_int, le_bool, le_nil, leLL_nil, leLL_cons, leH_cons, leH_nil, leH1_box, leH1_own, leH1_gone, le_vs, le_agg, le_tup, le_ptr, le_own, le_xp, le_fn, le_opt, le_val, le_elem, le_nil_own, le_nil_vs, leH_ghost, leL_chunk, leXL_id, bnd_int, bnd_bool, bnd_val, bnd_nil, bnd_junk, bnd_vs, bnd_xp, bnd_agg, bnd_tup, bnd_ptr, bnd_own, bnd_elem, bnd_fn, bnd_iface, bnd_opt, bndL_nil, bndL_cons, lenH_cons, lenH_nil, imp_self, implies_true, true_and, and_true]
                refine ⟨by omega, ⟨by omega, by omega⟩, fun q hq => ?_, by omega⟩
                rw [hs q hq]
                by_cases h1 : q = u
                · simp only [if_pos h1]; exact leL_self [.int _ _] ⟨trivial, trivial⟩
                · by_cases h2 : q = t
                  · simp only [if_neg h1, if_pos h2]; exact leL_self [.int _ _] ⟨trivial, trivial⟩
                  · simp only [if_neg h1, if_neg h2]; exact leL_self [.int _ _] ⟨trivial, trivial⟩
              · have hge2 := hge
                skip
                refine Loop.keepP 1 [0, 0, 0, 0, 0, 3] Nat (fun c => [(9, .int .i64 ((1 + c * 2 : Nat) : Int))]) (fun c => [(1, .own false 1 (M + c) (fun q => encI ((((progL 0 2 M).reverse) ++ progL (1) 2 c).getD q default))), (2, .box [.own 1 0 (M + c) 1])]) [] (fun c => c ≤ (n - (1) + 2 - 1) / 2) (fun c => (n - (1) + 2 - 1) / 2 - c) ?_ ?_
                · refine ⟨0, Nat.zero_le _, ?_⟩
                  dsimp only [go_sem, Option.bind, Option.map, List.append_nil, Nat.beq, List.cons_append, List.nil_append, List.append_eq, List.map_cons, List.map_nil, ite_self, reduceIte]
                  simp only [Bool.or_self, leS_mk, leL_cons, leL_nil, le_junk, le_int, le_bool, le_nil, leLL_nil, leLL_cons, leH_cons, leH_nil, leH1_box, leH1_own, leH1_gone, le_vs, le_agg, le_tup, le_ptr, le_own, le_xp, le_fn, le_opt, le_val, le_elem, le_nil_own, le_nil_vs, leH_ghost, leL_chunk, leXL_id, bnd_int, bnd_bool, bnd_val, bnd_nil, bnd_junk, bnd_vs, bnd_xp, bnd_agg, bnd_tup, bnd_ptr, bnd_own, bnd_elem, bnd_fn, bnd_iface, bnd_opt, bndL_nil, bndL_cons, lenH_cons, lenH_nil, imp_self, implies_true, true_and, and_true]
                  refine ⟨by omega, by omega, ⟨by omega, fun q hq => ?_⟩, by omega, by omega⟩
                  rw [prog_0, List.append_nil]
                  have e := rev_end (L1 := ([] : List Nat)) (P := progL 0 2 M) (A := 0) (M := M) (t := t) (q := q) rfl (prog_len _ _ _) (by omega) (by omega) (by omega)
                  rw [List.nil_append, List.nil_append] at e
                  rw [e]
                  exact leL_self [.int _ _] ⟨trivial, trivial⟩
                · rintro c hc
                  dsimp only [v42, v43, K0_ct42, K0_fn42, K0_ct43, K0_fn43, encI, Int.toNat_natCast, go_sem, Option.bind, Option.map, List.append_nil, Nat.beq, List.cons_append, List.nil_append, List.append_eq, List.map_cons, List.map_nil, ite_self, reduceIte]
                  simp only [true_and, and_true, imp_self, implies_true, decide_eq_true_eq, decide_eq_false_iff_not, Nat.reduceAdd, Nat.reduceLeDiff, Bool.not_not, reduceCtorEq, false_imp_iff, Bool.not_eq_true', Bool.not_eq_false', Bool.false_eq_true, and_self, forall_const, ne_eq, not_false_eq_true, Nat.reduceEqDiff]
                  refine ⟨fun hlt => ?_, fun hge => ?_⟩
                  · refine ⟨by decide, ⟨by unfold capOk; omega, fun q hq => match q, hq with | 0, _ => ⟨rfl, trivial, trivial⟩⟩, c + 1, by omega, by omega, ?_⟩
                    have hw : IntKind.i64.wrap (((1 + c * 2 : Nat) : Int) + 2) = ((1 + (c + 1) * 2 : Nat) : Int) := by rw [mid_w (by omega)]; omega
                    simp only [Bool.or_self, refs, refsL, nb21, nb01, hw, leS_mk, leL_cons, leL_nil, le_junk, le_int, le_bool, le_nil, leLL_nil, leLL_cons, leH_cons, leH_nil, leH1_box, leH1_own, leH1_gone, le_vs, le_agg, le_tup, le_ptr, le_own, le_xp, le_fn, le_opt, le_val, le_elem, le_nil_own, le_nil_vs, leH_ghost, leL_chunk, leXL_id, bnd_int, bnd_bool, bnd_val, bnd_nil, bnd_junk, bnd_vs, bnd_xp, bnd_agg, bnd_tup, bnd_ptr, bnd_own, bnd_elem, bnd_fn, bnd_iface, bnd_opt, bndL_nil, bndL_cons, lenH_cons, lenH_nil, imp_self, implies_true, true_and, and_true]
                    have e1 : ((progL 0 2 M).reverse) ++ progL (1) 2 (c + 1) = (((progL 0 2 M).reverse) ++ progL (1) 2 c) ++ [1 + c * 2] := by rw [prog_succ, List.append_assoc]
                    have e2 : (((progL 0 2 M).reverse) ++ progL (1) 2 c).length = M + c := by rw [List.length_append, prog_len]; rw [List.length_reverse, prog_len]
                    have e3 : ∀ q, q < M + c + 1 → leL (0 + 1 + 1 + 1 + 1) (0 + 1 + 1 + 1) (if q < M + c then [SV.int IntKind.i64 (((((progL 0 2 M).reverse) ++ progL (1) 2 c).getD q default : Nat) : Int)] else purgeL 1 (takeL 1 (dropL ((q - (M + c)) * 1) [SV.int IntKind.i64 ((1 + c * 2 : Nat) : Int)]))) [SV.int IntKind.i64 (((((progL 0 2 M).reverse) ++ progL (1) 2 (c + 1)).getD q default : Nat) : Int)] := by
                      intro q hq
                      rw [e1, getD_app, e2]
                      rcases Nat.lt_or_ge q (M + c) with h' | h'
                      · rw [if_pos h', if_pos h']; exact leL_self [.int _ _] ⟨trivial, trivial⟩
                      · obtain rfl : q = M + c := by omega
                        rw [if_neg (by omega), if_neg (by omega), if_pos rfl, Nat.sub_self]
                        exact leL_self [.int _ _] ⟨trivial, trivial⟩
                    exact ⟨by omega, by omega, ⟨rfl, by omega, e3⟩, by omega, by omega⟩
                  · obtain rfl : c = (n - (1) + 2 - 1) / 2 := by omega
                    generalize hB : (n - 1 + 2 - 1) / 2 = B at *
                    have hT : orderL n 3 = (progL 0 2 ((n - 0 + 2 - 1) / 2)).reverse ++ progL 1 2 ((n - 1 + 2 - 1) / 2) := rfl
                    rw [hM, hB] at hT
                    rw [hT] at h
                    refine ans_le (h false) ?_ ?_
                    · dsimp only [expo, encI, go_sem, Option.bind, Option.map, List.append_nil, Nat.beq, List.cons_append, List.nil_append, List.append_eq, List.map_cons, List.map_nil, ite_self, reduceIte]
                      simp only [List.length_append, List.length_reverse, prog_len, leS_mk, leL_cons, leL_nil, le_junk, le_int, le_bool, le_nil, leLL_nil, leLL_cons, leH_cons, leH_nil, leH1_box, leH1_own, leH1_gone, le_vs, le_agg, le_tup, le_ptr, le_own, le_xp, le_fn, le_opt, le_val, le_elem, le_nil_own, le_nil_vs, leH_ghost, leL_chunk, leXL_id, bnd_int, bnd_bool, bnd_val, bnd_nil, bnd_junk, bnd_vs, bnd_xp, bnd_agg, bnd_tup, bnd_ptr, bnd_own, bnd_elem, bnd_fn, bnd_iface, bnd_opt, bndL_nil, bndL_cons, lenH_cons, lenH_nil, imp_self, implies_true, true_and, and_true] <;> simp
                    · intro _; simp [freshS, freshL, encI]
      · obtain rfl : kd = 4 := by omega
        refine Loop.keep [2, 3, 0] Nat (fun f => [(26, .int .i64 f)]) (fun f => [(1, .own false 1 (accL n f).length (fun q => encI ((accL n f).getD q default))), (2, .box [.own 1 0 (accL n f).length 1])]) [] (fun f => f ≤ 4) (fun f => 4 - f) ?_ ?_
        · refine ⟨0, by omega, ?_⟩
          dsimp only [go_sem, Option.bind, Option.map, List.append_nil, Nat.beq, List.cons_append, List.nil_append, List.append_eq, List.map_cons, List.map_nil, ite_self, reduceIte]
          simp only [leS_mk, leL_cons, leL_nil, le_junk, le_int, le_bool, le_nil, leLL_nil, leLL_cons, leH_cons, leH_nil, leH1_box, leH1_own, leH1_gone, le_vs, le_agg, le_tup, le_ptr, le_own, le_xp, le_fn, le_opt, le_val, le_elem, le_nil_own, le_nil_vs, leH_ghost, leL_chunk, leXL_id, bnd_int, bnd_bool, bnd_val, bnd_nil, bnd_junk, bnd_vs, bnd_xp, bnd_agg, bnd_tup, bnd_ptr, bnd_own, bnd_elem, bnd_fn, bnd_iface, bnd_opt, bndL_nil, bndL_cons, lenH_cons, lenH_nil, imp_self, implies_true, true_and, and_true]
          simp [accL]
        · rintro f hf4
          dsimp only [v42, v43, K0_ct42, K0_fn42, K0_ct43, K0_fn43, encI, Int.toNat_natCast, go_sem, Option.bind, Option.map, List.append_nil, Nat.beq, List.cons_append, List.nil_append, List.append_eq, List.map_cons, List.map_nil, ite_self, reduceIte]
          simp only [true_and, and_true, imp_self, implies_true, decide_eq_true_eq, decide_eq_false_iff_not, Nat.reduceAdd, Nat.reduceLeDiff, Bool.not_not, reduceCtorEq, false_imp_iff, Bool.not_eq_true', Bool.not_eq_false', Bool.false_eq_true, and_self, forall_const, ne_eq, not_false_eq_true, Nat.reduceEqDiff]
          have hal := acc_le f hn (by omega)
          refine ⟨fun hlf => ?_, fun hgf => ?_⟩
          · refine Loop.keepP 1 [0, 0, 0, 0, 0, 3] Nat (fun c => [(9, .int .i64 ((f + c * 4 : Nat) : Int))]) (fun c => [(1, .own false 1 ((accL n f).length + c) (fun q => encI (((accL n f) ++ progL (f) 4 c).getD q default))), (2, .box [.own 1 0 ((accL n f).length + c) 1])]) [] (fun c => c ≤ (n - (f) + 4 - 1) / 4) (fun c => (n - (f) + 4 - 1) / 4 - c) ?_ ?_
            · refine ⟨0, Nat.zero_le _, ?_⟩
              dsimp only [go_sem, Option.bind, Option.map, List.append_nil, Nat.beq, List.cons_append, List.nil_append, List.append_eq, List.map_cons, List.map_nil, ite_self, reduceIte]
              simp only [Bool.or_self, leS_mk, leL_cons, leL_nil, le_junk, le_int, le_bool, le_nil, leLL_nil, leLL_cons, leH_cons, leH_nil, leH1_box, leH1_own, leH1_gone, le_vs, le_agg, le_tup, le_ptr, le_own, le_xp, le_fn, le_opt, le_val, le_elem, le_nil_own, le_nil_vs, leH_ghost, leL_chunk, leXL_id, bnd_int, bnd_bool, bnd_val, bnd_nil, bnd_junk, bnd_vs, bnd_xp, bnd_agg, bnd_tup, bnd_ptr, bnd_own, bnd_elem, bnd_fn, bnd_iface, bnd_opt, bndL_nil, bndL_cons, lenH_cons, lenH_nil, imp_self, implies_true, true_and, and_true]
              exact ⟨⟨by omega, by omega, by omega⟩, by omega, ⟨by omega, fun q hq => by rw [prog_0, List.append_nil]; exact leL_self [.int _ _] ⟨trivial, trivial⟩⟩, by omega, by omega⟩
            · rintro c hc
              dsimp only [v42, v43, K0_ct42, K0_fn42, K0_ct43, K0_fn43, encI, Int.toNat_natCast, go_sem, Option.bind, Option.map, List.append_nil, Nat.beq, List.cons_append, List.nil_append, List.append_eq, List.map_cons, List.map_nil, ite_self, reduceIte]
              simp only [true_and, and_true, imp_self, implies_true, decide_eq_true_eq, decide_eq_false_iff_not, Nat.reduceAdd, Nat.reduceLeDiff, Bool.not_not, reduceCtorEq, false_imp_iff, Bool.not_eq_true', Bool.not_eq_false', Bool.false_eq_true, and_self, forall_const, ne_eq, not_false_eq_true, Nat.reduceEqDiff]
              refine ⟨fun hlt => ?_, fun hge => ?_⟩
              · refine ⟨by decide, ⟨by unfold capOk; omega, fun q hq => match q, hq with | 0, _ => ⟨rfl, trivial, trivial⟩⟩, c + 1, by omega, by omega, ?_⟩
                have hw : IntKind.i64.wrap (((f + c * 4 : Nat) : Int) + 4) = ((f + (c + 1) * 4 : Nat) : Int) := by rw [mid_w (by omega)]; omega
                simp only [Bool.or_self, refs, refsL, nb21, nb01, hw, leS_mk, leL_cons, leL_nil, le_junk, le_int, le_bool, le_nil, leLL_nil, leLL_cons, leH_cons, leH_nil, leH1_box, leH1_own, leH1_gone, le_vs, le_agg, le_tup, le_ptr, le_own, le_xp, le_fn, le_opt, le_val, le_elem, le_nil_own, le_nil_vs, leH_ghost, leL_chunk, leXL_id, bnd_int, bnd_bool, bnd_val, bnd_nil, bnd_junk, bnd_vs, bnd_xp, bnd_agg, bnd_tup, bnd_ptr, bnd_own, bnd_elem, bnd_fn, bnd_iface, bnd_opt, bndL_nil, bndL_cons, lenH_cons, lenH_nil, imp_self, implies_true, true_and, and_true]
                have e1 : (accL n f) ++ progL (f) 4 (c + 1) = ((accL n f) ++ progL (f) 4 c) ++ [f + c * 4] := by rw [prog_succ, List.append_assoc]
                have e2 : ((accL n f) ++ progL (f) 4 c).length = (accL n f).length + c := by rw [List.length_append, prog_len]; try rfl
                have e3 : ∀ q, q < (accL n f).length + c + 1 → leL (0 + 1 + 1 + 1 + 1) (0 + 1 + 1 + 1) (if q < (accL n f).length + c then [SV.int IntKind.i64 ((((accL n f) ++ progL (f) 4 c).getD q default : Nat) : Int)] else purgeL 1 (takeL 1 (dropL ((q - ((accL n f).length + c)) * 1) [SV.int IntKind.i64 ((f + c * 4 : Nat) : Int)]))) [SV.int IntKind.i64 ((((accL n f) ++ progL (f) 4 (c + 1)).getD q default : Nat) : Int)] := by
                  intro q hq
                  rw [e1, getD_app, e2]
                  rcases Nat.lt_or_ge q ((accL n f).length + c) with h' | h'
                  · rw [if_pos h', if_pos h']; exact leL_self [.int _ _] ⟨trivial, trivial⟩
                  · obtain rfl : q = (accL n f).length + c := by omega
                    rw [if_neg (by omega), if_neg (by omega), if_pos rfl, Nat.sub_self]
                    exact leL_self [.int _ _] ⟨trivial, trivial⟩
                exact ⟨by omega, by omega, ⟨rfl, by omega, e3⟩, by omega, by omega⟩
              · obtain rfl : c = (n - (f) + 4 - 1) / 4 := by omega
                refine ⟨f + 1, by omega, by omega, ?_⟩
                have wf : IntKind.i64.wrap ((f : Int) + 1) = ((f + 1 : Nat) : Int) := by rw [mid_w (by omega)]; omega
                have ea : accL n (f + 1) = accL n f ++ progL f 4 ((n - f + 4 - 1) / 4) := rfl
                simp only [wf, ea, List.length_append, prog_len, leS_mk, leL_cons, leL_nil, le_junk, le_int, le_bool, le_nil, leLL_nil, leLL_cons, leH_cons, leH_nil, leH1_box, leH1_own, leH1_gone, le_vs, le_agg, le_tup, le_ptr, le_own, le_xp, le_fn, le_opt, le_val, le_elem, le_nil_own, le_nil_vs, leH_ghost, leL_chunk, leXL_id, bnd_int, bnd_bool, bnd_val, bnd_nil, bnd_junk, bnd_vs, bnd_xp, bnd_agg, bnd_tup, bnd_ptr, bnd_own, bnd_elem, bnd_fn, bnd_iface, bnd_opt, bndL_nil, bndL_cons, lenH_cons, lenH_nil, imp_self, implies_true, true_and, and_true]
                omega
          · obtain rfl : f = 4 := by omega
            have hT : orderL n 4 = accL n 4 := rfl
            rw [hT] at h
            refine ans_le (h false) ?_ ?_
            · dsimp only [expo, encI, go_sem, Option.bind, Option.map, List.append_nil, Nat.beq, List.cons_append, List.nil_append, List.append_eq, List.map_cons, List.map_nil, ite_self, reduceIte]
              simp only [leS_mk, leL_cons, leL_nil, le_junk, le_int, le_bool, le_nil, leLL_nil, leLL_cons, leH_cons, leH_nil, leH1_box, leH1_own, leH1_gone, le_vs, le_agg, le_tup, le_ptr, le_own, le_xp, le_fn, le_opt, le_val, le_elem, le_nil_own, le_nil_vs, leH_ghost, leL_chunk, leXL_id, bnd_int, bnd_bool, bnd_val, bnd_nil, bnd_junk, bnd_vs, bnd_xp, bnd_agg, bnd_tup, bnd_ptr, bnd_own, bnd_elem, bnd_fn, bnd_iface, bnd_opt, bndL_nil, bndL_cons, lenH_cons, lenH_nil, imp_self, implies_true, true_and, and_true]
            · intro _; simp [freshS, freshL, encI]
  · exact h.1.elim
end Go.Proofs.Ytojaibhjfeojjaa

/- Layouts, walked: the laws' helpers; the document's examples. -/
/- Layouts, walked: the laws' helpers; the document's examples. -/
set_option linter.all false
namespace Go.Proofs.Ytojaibhjfeojjaa
open Go Go.Vx
set_option maxRecDepth 100000
set_option maxHeartbeats 4000000

def v13 : VF := { ntmps := 26, res := [.tmp 4], body :=
 (.seq (.region [u1 4 .mov [.cn (.bool false)]])
 (.seq (.seq (.region [u1 6 .mov [.tm 0],
 u1 7 .len [.tm 6],
 u1 8 .mov [.tm 1],
 u1 9 .len [.tm 8],
 u1 10 (.cmp .neq) [.tm 7, .tm 9]])
 (.cond (.tm 10) (.seq (.region [u1 4 .mov [.cn (.bool false)]])
 .ret)
  .skip))
 (.seq (.seq (.region [u1 5 .mov [.cn (.int .i64 0)]])
 (.block 0 (.loop (.seq (.seq (.region [u1 11 .mov [.tm 5],
 u1 12 .mov [.tm 0],
 u1 13 .len [.tm 12],
 u1 14 (.cmp .lss) [.tm 11, .tm 13]])
 (.cond (.tm 14) .skip
  (.exit 0)))
 (.seq (.block 1 (.seq (.draw [] [w1 17 .mov [.tm 0],
 w1 18 .mov [.tm 5],
 w1 19 (.idxAddr 4) [.tm 17, .tm 18],
 w1 20 (.load true 4) [.tm 19],
 w1 21 .mov [.tm 1],
 w1 22 .mov [.tm 5],
 w1 23 (.idxAddr 4) [.tm 21, .tm 22],
 w1 24 (.load true 4) [.tm 23],
 w1 25 (.eqv true [true, true, true, true]) [.tm 20, .tm 24]])
 (.cond (.tm 25) (.seq (.region [u1 4 .mov [.cn (.bool false)]])
 .ret)
  .skip)))
 (.region [u1 15 .mov [.tm 5],
 u1 16 (.ari .add) [.tm 15, .cn (.int .i64 1)],
 u1 5 .mov [.tm 16]]))))))
 (.seq (.region [u1 4 .mov [.cn (.bool true)]])
 .ret)))) }
theorem v13_is : vfunc Try.prog Try.f13 = some v13 := by kernel_rfl
def v16 : VF := { ntmps := 26, res := [.tmp 4], body :=
 (.seq (.region [u1 4 .mov [.cn (.bool false)]])
 (.seq (.seq (.region [u1 6 .mov [.tm 0],
 u1 7 .len [.tm 6],
 u1 8 .mov [.tm 1],
 u1 9 .len [.tm 8],
 u1 10 (.cmp .neq) [.tm 7, .tm 9]])
 (.cond (.tm 10) (.seq (.region [u1 4 .mov [.cn (.bool false)]])
 .ret)
  .skip))
 (.seq (.seq (.region [u1 5 .mov [.cn (.int .i64 0)]])
 (.block 0 (.loop (.seq (.seq (.region [u1 11 .mov [.tm 5],
 u1 12 .mov [.tm 0],
 u1 13 .len [.tm 12],
 u1 14 (.cmp .lss) [.tm 11, .tm 13]])
 (.cond (.tm 14) .skip
  (.exit 0)))
 (.seq (.block 1 (.seq (.draw [] [w1 17 .mov [.tm 0],
 w1 18 .mov [.tm 5],
 w1 19 (.idxAddr 1) [.tm 17, .tm 18],
 w1 20 (.load false 1) [.tm 19],
 w1 21 .mov [.tm 1],
 w1 22 .mov [.tm 5],
 w1 23 (.idxAddr 1) [.tm 21, .tm 22],
 w1 24 (.load false 1) [.tm 23],
 w1 25 (.cmp .neq) [.tm 20, .tm 24]])
 (.cond (.tm 25) (.seq (.region [u1 4 .mov [.cn (.bool false)]])
 .ret)
  .skip)))
 (.region [u1 15 .mov [.tm 5],
 u1 16 (.ari .add) [.tm 15, .cn (.int .i64 1)],
 u1 5 .mov [.tm 16]]))))))
 (.seq (.region [u1 4 .mov [.cn (.bool true)]])
 .ret)))) }
theorem v16_is : vfunc Try.prog Try.f16 = some v16 := by kernel_rfl
def v32 : VF := { ntmps := 14, res := [.cell 8 true 4], body :=
 (.seq (.region [u1 8 (.alloc [(.int .i64 0), (.int .i64 0), (.int .i64 0), (.int .i64 0)]) []])
 (.seq (.region [u1 9 .mov [.tm 0],
 u1 10 .mov [.tm 1],
 u1 11 .mov [.tm 2],
 u1 12 .mov [.tm 3],
 u1 13 (.build [(.int .i64 0), (.int .i64 0), (.int .i64 0), (.int .i64 0)] [(0, 1), (1, 1), (2, 1), (3, 1)]) [.tm 9, .tm 10, .tm 11, .tm 12],
 u0 (.store 4) [.tm 8, .tm 13]])
 .ret)) }
theorem v32_is : vfunc Try.prog Try.f32 = some v32 := by kernel_rfl
def v10 : VF := { ntmps := 95, res := [.tmp 0], body :=
 (.seq (.region [u1 0 .mov [.cn (.bool false)]])
 (.seq (.region [u1 13 (.build [(.int .i64 0), (.int .i64 0)] [(0, 1), (1, 1)]) [.cn (.int .i64 50), .cn (.int .i64 100)],
 u1 14 (.buildSlice 2 1 [(.int .i64 0), (.int .i64 0)] [(0, 2)]) [.tm 13],
 u1 15 (.build [(.int .i64 0), (.int .i64 0), (.int .i64 0), (.int .i64 0), (.int .i64 0), .nil] [(0, 1), (1, 1), (2, 1), (3, 1), (4, 1), (5, 1)]) [.cn (.int .i64 100), .cn (.int .i64 100), .cn (.int .i64 2), .cn (.int .i64 50), .cn (.int .i64 3), .tm 14],
 u1 1 (.alloc [(.int .i64 0), (.int .i64 0), (.int .i64 0), (.int .i64 0), (.int .i64 0), .nil]) [],
 u0 (.store 6) [.tm 1, .tm 15]])
 (.seq (.region [u1 16 (.call 32) [.cn (.int .i64 50), .cn (.int .i64 50), .cn (.int .i64 5), .cn (.int .i64 10)],
 u1 17 (.call 32) [.cn (.int .i64 57), .cn (.int .i64 70), .cn (.int .i64 5), .cn (.int .i64 20)],
 u1 18 (.buildSlice 4 2 [(.int .i64 0), (.int .i64 0), (.int .i64 0), (.int .i64 0)] [(0, 4), (4, 4)]) [.tm 16, .tm 17],
 u1 2 .mov [.tm 18]])
 (.seq (.region [u1 20 (.load true 6) [.tm 1],
 u1 21 .mov [.tm 2],
 u1 22 (.call 17) [.tm 20, .tm 21, .cn (.int .i64 0)],
 u1 19 .mov [.tm 22],
 u1 23 (.ext 0) [.tm 19],
 u1 24 (.ext 1) [.tm 19],
 u1 3 .mov [.tm 23],
 u1 4 .mov [.tm 24]])
 (.seq (.region [u1 25 .mov [.tm 2],
 u1 26 (.idxAddr 4) [.tm 25, .cn (.int .i64 1)],
 u1 27 (.fieldAddr 0) [.tm 26],
 u0 (.store 1) [.tm 27, .cn (.int .i64 58)]])
 (.seq (.region [u1 29 (.load true 6) [.tm 1],
 u1 30 .mov [.tm 2],
 u1 31 (.call 17) [.tm 29, .tm 30, .cn (.int .i64 0)],
 u1 28 .mov [.tm 31],
 u1 32 (.ext 0) [.tm 28],
 u1 33 (.ext 1) [.tm 28],
 u1 5 .mov [.tm 32],
 u1 6 .mov [.tm 33]])
 (.seq (.region [u1 7 .mov [.cn .nil]])
 (.seq (.seq (.region [u1 8 .mov [.cn (.int .i64 0)]])
 (.block 0 (.loop (.seq (.seq (.region [u1 34 .mov [.tm 8],
 u1 35 (.cmp .lss) [.tm 34, .cn (.int .i64 6)]])
 (.cond (.tm 35) .skip
  (.exit 0)))
 (.seq (.block 1 (.region [u1 38 .mov [.tm 7],
 u1 39 (.buildSlice 1 6 [(.int .i64 0)] [(0, 1), (1, 1), (2, 1), (3, 1), (4, 1), (5, 1)]) [.cn (.int .i64 20), .cn (.int .i64 20), .cn (.int .i64 10), .cn (.int .i64 10), .cn (.int .i64 10), .cn (.int .i64 5)],
 u1 40 .mov [.tm 8],
 u1 41 (.idxAddr 1) [.tm 39, .tm 40],
 u1 42 (.load false 1) [.tm 41],
 u1 43 (.build [(.int .i64 0), (.int .i64 0)] [(0, 1), (1, 1)]) [.tm 42, .cn (.int .i64 1)],
 u1 44 (.buildSlice 2 1 [(.int .i64 0), (.int .i64 0)] [(0, 2)]) [.tm 43],
 u1 45 (.append 2 16 [(.int .i64 0), (.int .i64 0)]) [.tm 38, .tm 44],
 u1 7 .mov [.tm 45]]))
 (.region [u1 36 .mov [.tm 8],
 u1 37 (.ari .add) [.tm 36, .cn (.int .i64 1)],
 u1 8 .mov [.tm 37]]))))))
 (.seq (.region [u1 46 (.fieldAddr 1) [.tm 1],
 u0 (.store 1) [.tm 46, .cn (.int .i64 70)]])
 (.seq (.region [u1 48 (.load true 6) [.tm 1],
 u1 49 .mov [.tm 7],
 u1 50 (.call 11) [.tm 48, .tm 49],
 u1 47 .mov [.tm 50],
 u1 51 (.ext 0) [.tm 47],
 u1 52 (.ext 1) [.tm 47],
 u1 9 .mov [.tm 51],
 u1 10 .mov [.tm 52]])
 (.seq (.region [u1 54 (.call 14) [.cn (.int .i64 5), .cn (.int .i64 2)],
 u1 53 .mov [.tm 54],
 u1 55 (.ext 0) [.tm 53],
 u1 56 (.ext 1) [.tm 53],
 u1 11 .mov [.tm 55],
 u1 12 .mov [.tm 56]])
 (.seq (.seq (.region [u1 57 .mov [.tm 4],
 u1 58 (.cmp .neq) [.tm 57, .cn (.int .i64 0)],
 u1 59 .mov [.tm 58],
 u2 60 59 false .mov [.tm 6],
 u2 61 59 false (.cmp .neq) [.tm 60, .cn (.int .i64 0)],
 u1 62 .or [.tm 59, .tm 61],
 u1 63 .mov [.tm 62],
 u2 64 63 false .mov [.tm 10],
 u2 65 63 false (.cmp .neq) [.tm 64, .cn (.int .i64 0)],
 u1 66 .or [.tm 63, .tm 65],
 u1 67 .mov [.tm 66],
 u2 68 67 false .mov [.tm 12],
 u2 69 67 false (.cmp .neq) [.tm 68, .cn (.int .i64 0)],
 u1 70 .or [.tm 67, .tm 69]])
 (.cond (.tm 70) (.seq (.region [u1 0 .mov [.cn (.bool false)]])
 .ret)
  .skip))
 (.seq (.region [u1 71 .mov [.tm 3],
 u1 72 .len [.tm 71],
 u1 73 (.cmp .eql) [.tm 72, .cn (.int .i64 0)],
 u1 74 .mov [.tm 73],
 u2 75 74 true .mov [.tm 5],
 u2 76 74 true (.buildSlice 1 1 [(.int .i64 0)] [(0, 1)]) [.cn (.int .i64 0)],
 u2 77 74 true (.call 16) [.tm 75, .tm 76],
 u1 78 .and [.tm 74, .tm 77],
 u1 79 .mov [.tm 78],
 u2 80 79 true .mov [.tm 9],
 u2 81 79 true (.call 32) [.cn (.int .i64 20), .cn (.int .i64 20), .cn (.int .i64 20), .cn (.int .i64 1)],
 u2 82 79 true (.call 32) [.cn (.int .i64 62), .cn (.int .i64 20), .cn (.int .i64 20), .cn (.int .i64 1)],
 u2 83 79 true (.call 32) [.cn (.int .i64 10), .cn (.int .i64 52), .cn (.int .i64 10), .cn (.int .i64 1)],
 u2 84 79 true (.call 32) [.cn (.int .i64 32), .cn (.int .i64 52), .cn (.int .i64 10), .cn (.int .i64 1)],
 u2 85 79 true (.call 32) [.cn (.int .i64 54), .cn (.int .i64 52), .cn (.int .i64 10), .cn (.int .i64 1)],
 u2 86 79 true (.call 32) [.cn (.int .i64 71), .cn (.int .i64 52), .cn (.int .i64 5), .cn (.int .i64 1)],
 u2 87 79 true (.buildSlice 4 6 [(.int .i64 0), (.int .i64 0), (.int .i64 0), (.int .i64 0)] [(0, 4), (4, 4), (8, 4), (12, 4), (16, 4), (20, 4)]) [.tm 81, .tm 82, .tm 83, .tm 84, .tm 85, .tm 86],
 u2 88 79 true (.call 13) [.tm 80, .tm 87],
 u1 89 .and [.tm 79, .tm 88],
 u1 90 .mov [.tm 89],
 u2 91 90 true .mov [.tm 11],
 u2 92 90 true (.buildSlice 1 5 [(.int .i64 0)] [(0, 1), (1, 1), (2, 1), (3, 1), (4, 1)]) [.cn (.int .i64 0), .cn (.int .i64 2), .cn (.int .i64 4), .cn (.int .i64 3), .cn (.int .i64 1)],
 u2 93 90 true (.call 16) [.tm 91, .tm 92],
 u1 94 .and [.tm 90, .tm 93],
 u1 0 .mov [.tm 94]])
 .ret))))))))))))) }
theorem v10_is : vfunc Try.prog Try.f10 = some v10 := by kernel_rfl


def samC {α : Type} [Inhabited α] [DecidableEq α] (size : Nat) (e : α → List SV) : Ctr := { alias := false, of := fun l => match l with
  | [.vs _ _ n sz get, .vs _ _ m sz' get'] => .ex (List α) fun a => .ex (List α) fun b => .pre (lsP size e n sz get a ∧ lsP size e m sz' get' b ∧ a.length ≤ 1000000000000) (.fin (.bool (decide (a = b))) [])
  | _ => noC }
def samSC : Ctr := samC 4 encS
def samIC : Ctr := samC 1 encI
def sdC : Ctr := { alias := false, of := fun l => match l with
  | [.int .i64 x, .int .i64 y, .int .i64 r, .int .i64 h] => .fin (.agg [.int .i64 x, .int .i64 y, .int .i64 r, .int .i64 h]) []
  | _ => noC }
def farF (b : Brd) (n : Nat) : Bool := (decide (40 < n) && decide (n ≤ 200)) || decide (210 < n) || decide (20 < b.wk.length)
def farC : Ctr := { alias := false, of := fun l => match l with
  | [.agg [.int .i64 w, .int .i64 d, .int .i64 c, .int .i64 a, .int .i64 s, .vs _ _ n sz get], .vs _ _ n' sz' get'] => .ex Brd fun b => .pre (brdP b w d c a s n sz get) (.fin (.bool (farF b n')) [])
  | _ => noC }
def L0 : Env := { ct := fun _ => none, fn := fun _ => none, meth := fun _ _ => none }
theorem L0_ok : EnvOk Try.prog L0 := by
  refine ⟨fun f c h => ?_, fun f vf h => ?_, (fun _ _ _ h => by cases h), by kernel_rfl⟩
  · cases h
  · cases h

theorem sd_ok : sdC.ok Try.prog 32 := by
  refine contract Try.func32 v32_is L0_ok 100 sdC fun args k h => ⟨args, ?_⟩
  simp only [sdC] at h
  split at h
  · refine ⟨by simp [leL, le], ?_⟩
    dsimp only [v32, go_sem, Option.bind, Option.map, List.append_nil, Nat.beq, List.cons_append, List.nil_append, List.append_eq, List.map_cons, List.map_nil, ite_self, reduceIte]
    simp only [true_and, and_true, imp_self, implies_true, decide_eq_true_eq, decide_eq_false_iff_not, Nat.reduceAdd, Nat.reduceLeDiff, Bool.not_not, reduceCtorEq, false_imp_iff, Bool.not_eq_true', Bool.not_eq_false', Bool.false_eq_true, and_self, forall_const, ne_eq, not_false_eq_true, Nat.reduceEqDiff]
    exact ans_le (show k _ [] from h) (leX_le (.agg [.int _ _, .int _ _, .int _ _, .int _ _]) _ (leXL_self _) ⟨trivial, trivial, trivial, trivial, trivial⟩) (fun _ => by simp [freshS, freshL])
  · exact h.1.elim
theorem list_ne {α : Type} [Inhabited α] {a b : List α} {i : Nat} (h : a.getD i default ≠ b.getD i default) : a ≠ b := fun e => h (by rw [e])
theorem samI_ok : samIC.ok Try.prog 16 := by
  refine contract Try.func16 v16_is L0_ok 200 samIC fun args k h => ?_
  simp only [samIC, samC] at h
  split at h
  · rename_i t z n sz get t' z' m sz' get'
    obtain ⟨a, b, ⟨⟨rfl, rfl, hg⟩, ⟨rfl, rfl, hg'⟩, hbig⟩, h⟩ := h
    refine ⟨[.vs t z a.length 1 (fun k => encI (a.getD k default)), .vs t' z' b.length 1 (fun k => encI (b.getD k default))], ⟨by simpa [le] using hg, by simpa [le] using hg', trivial⟩, ?_⟩
    have h : k (.bool (decide (a = b))) [] := h
    dsimp only [v16, encI, go_sem, Option.bind, Option.map, List.append_nil, Nat.beq, List.cons_append, List.nil_append, List.append_eq, List.map_cons, List.map_nil, ite_self, reduceIte]
    simp only [true_and, and_true, imp_self, implies_true, decide_eq_true_eq, decide_eq_false_iff_not, Nat.reduceAdd, Nat.reduceLeDiff, Bool.not_not, reduceCtorEq, false_imp_iff, Bool.not_eq_true', Bool.not_eq_false', Bool.false_eq_true, and_self, forall_const, ne_eq, not_false_eq_true, Nat.reduceEqDiff]
    refine ⟨fun hc => ?_, fun hc => ?_⟩
    · rw [decide_eq_false (show ¬ a = b from fun e => by rw [e] at hc; omega)] at h; exact ans_bool h
    · have hlen : a.length = b.length := by omega
      refine Loop.keep [0, 0, 3] Nat (fun i => [(5, .int .i64 i)]) (fun _ => []) [] (fun i => i ≤ a.length ∧ ∀ j, j < i → a.getD j default = b.getD j default) (fun i => a.length - i) ?_ ?_
      · refine ⟨0, ⟨Nat.zero_le _, fun j h => by omega⟩, ?_⟩
        dsimp only [go_sem, Option.bind, Option.map, List.append_nil, Nat.beq, List.cons_append, List.nil_append, List.append_eq, List.map_cons, List.map_nil, ite_self, reduceIte]
        simp only [leS_mk, leL_cons, leL_nil, le_junk, le_int, le_bool, le_nil, leLL_nil, leLL_cons, leH_cons, leH_nil, leH1_box, leH1_own, leH1_gone, le_vs, le_agg, le_tup, le_ptr, le_own, le_xp, le_fn, le_opt, le_val, le_elem, le_nil_own, le_nil_vs, leH_ghost, leL_chunk, leXL_id, bnd_int, bnd_bool, bnd_val, bnd_nil, bnd_junk, bnd_vs, bnd_xp, bnd_agg, bnd_tup, bnd_ptr, bnd_own, bnd_elem, bnd_fn, bnd_iface, bnd_opt, bndL_nil, bndL_cons, lenH_cons, lenH_nil, imp_self, implies_true, true_and, and_true]
        simp
      · rintro i ⟨hi, ha⟩
        dsimp only [encS, encI, Int.toNat_natCast, go_sem, Option.bind, Option.map, List.append_nil, Nat.beq, List.cons_append, List.nil_append, List.append_eq, List.map_cons, List.map_nil, ite_self, reduceIte]
        simp only [true_and, and_true, imp_self, implies_true, decide_eq_true_eq, decide_eq_false_iff_not, Nat.reduceAdd, Nat.reduceLeDiff, Bool.not_not, reduceCtorEq, false_imp_iff, Bool.not_eq_true', Bool.not_eq_false', Bool.false_eq_true, and_self, forall_const, ne_eq, not_false_eq_true, Nat.reduceEqDiff]
        refine ⟨fun hlt => ?_, fun hge => ?_⟩
        · refine ⟨⟨by omega, hlt⟩, ⟨by omega, by omega⟩, ?_⟩
          refine ⟨fun hne => ?_, fun heq => ?_⟩
          · rw [decide_eq_false (list_ne (a := a) (b := b) (i := i) fun e => hne (by rw [e]))] at h; exact ans_bool h
          · refine ⟨i + 1, ⟨by omega, fun j hj => ?_⟩, by omega, ?_⟩
            · rcases Nat.lt_or_ge j i with h' | h'
              · exact ha j h'
              · obtain rfl : j = i := by omega
                omega
            · simp only [w_succ (i := i) (n := a.length) (by omega) (by omega), leS_mk, leL_cons, leL_nil, le_junk, le_int, le_bool, le_nil, leLL_nil, leLL_cons, leH_cons, leH_nil, leH1_box, leH1_own, leH1_gone, le_vs, le_agg, le_tup, le_ptr, le_own, le_xp, le_fn, le_opt, le_val, le_elem, le_nil_own, le_nil_vs, leH_ghost, leL_chunk, leXL_id, bnd_int, bnd_bool, bnd_val, bnd_nil, bnd_junk, bnd_vs, bnd_xp, bnd_agg, bnd_tup, bnd_ptr, bnd_own, bnd_elem, bnd_fn, bnd_iface, bnd_opt, bndL_nil, bndL_cons, lenH_cons, lenH_nil, imp_self, implies_true, true_and, and_true] <;> simp
        · have e : a = b := list_ext hlen fun i h => ha i (by omega)
          rw [decide_eq_true e] at h; exact ans_bool h
  · exact h.1.elim
theorem samS_ok : samSC.ok Try.prog 13 := by
  refine contract Try.func13 v13_is L0_ok 200 samSC fun args k h => ?_
  simp only [samSC, samC] at h
  split at h
  · rename_i t z n sz get t' z' m sz' get'
    obtain ⟨a, b, ⟨⟨rfl, rfl, hg⟩, ⟨rfl, rfl, hg'⟩, hbig⟩, h⟩ := h
    refine ⟨[.vs t z a.length 4 (fun k => encS (a.getD k default)), .vs t' z' b.length 4 (fun k => encS (b.getD k default))], ⟨by simpa [le] using hg, by simpa [le] using hg', trivial⟩, ?_⟩
    have h : k (.bool (decide (a = b))) [] := h
    dsimp only [v13, encS, go_sem, Option.bind, Option.map, List.append_nil, Nat.beq, List.cons_append, List.nil_append, List.append_eq, List.map_cons, List.map_nil, ite_self, reduceIte]
    simp only [true_and, and_true, imp_self, implies_true, decide_eq_true_eq, decide_eq_false_iff_not, Nat.reduceAdd, Nat.reduceLeDiff, Bool.not_not, reduceCtorEq, false_imp_iff, Bool.not_eq_true', Bool.not_eq_false', Bool.false_eq_true, and_self, forall_const, ne_eq, not_false_eq_true, Nat.reduceEqDiff]
    refine ⟨fun hc => ?_, fun hc => ?_⟩
    · rw [decide_eq_false (show ¬ a = b from fun e => by rw [e] at hc; omega)] at h; exact ans_bool h
    · have hlen : a.length = b.length := by omega
      refine Loop.keep [0, 0, 3] Nat (fun i => [(5, .int .i64 i)]) (fun _ => []) [] (fun i => i ≤ a.length ∧ ∀ j, j < i → a.getD j default = b.getD j default) (fun i => a.length - i) ?_ ?_
      · refine ⟨0, ⟨Nat.zero_le _, fun j h => by omega⟩, ?_⟩
        dsimp only [go_sem, Option.bind, Option.map, List.append_nil, Nat.beq, List.cons_append, List.nil_append, List.append_eq, List.map_cons, List.map_nil, ite_self, reduceIte]
        simp only [leS_mk, leL_cons, leL_nil, le_junk, le_int, le_bool, le_nil, leLL_nil, leLL_cons, leH_cons, leH_nil, leH1_box, leH1_own, leH1_gone, le_vs, le_agg, le_tup, le_ptr, le_own, le_xp, le_fn, le_opt, le_val, le_elem, le_nil_own, le_nil_vs, leH_ghost, leL_chunk, leXL_id, bnd_int, bnd_bool, bnd_val, bnd_nil, bnd_junk, bnd_vs, bnd_xp, bnd_agg, bnd_tup, bnd_ptr, bnd_own, bnd_elem, bnd_fn, bnd_iface, bnd_opt, bndL_nil, bndL_cons, lenH_cons, lenH_nil, imp_self, implies_true, true_and, and_true]
        simp
      · rintro i ⟨hi, ha⟩
        dsimp only [encS, encI, Int.toNat_natCast, go_sem, Option.bind, Option.map, List.append_nil, Nat.beq, List.cons_append, List.nil_append, List.append_eq, List.map_cons, List.map_nil, ite_self, reduceIte]
        simp only [true_and, and_true, imp_self, implies_true, decide_eq_true_eq, decide_eq_false_iff_not, Nat.reduceAdd, Nat.reduceLeDiff, Bool.not_not, reduceCtorEq, false_imp_iff, Bool.not_eq_true', Bool.not_eq_false', Bool.false_eq_true, and_self, forall_const, ne_eq, not_false_eq_true, Nat.reduceEqDiff]
        refine ⟨fun hlt => ?_, fun hge => ?_⟩
        · refine ⟨⟨by omega, hlt⟩, ⟨by omega, by omega⟩, ?_⟩
          refine ⟨fun hne => ?_, fun heq => ?_⟩
          · rw [decide_eq_false (list_ne (a := a) (b := b) (i := i) fun e => by rw [e] at hne; simp at hne)] at h; exact ans_bool h
          · have he : a.getD i default = b.getD i default := by
              simp only [Bool.and_true, Bool.and_eq_true, decide_eq_true_eq] at heq
              generalize a.getD i default = p at *
              generalize b.getD i default = q at *
              obtain ⟨p1, p2, p3, p4⟩ := p
              obtain ⟨q1, q2, q3, q4⟩ := q
              obtain ⟨rfl, rfl, rfl, rfl⟩ := heq
              rfl
            refine ⟨i + 1, ⟨by omega, fun j hj => ?_⟩, by omega, ?_⟩
            · rcases Nat.lt_or_ge j i with h' | h'
              · exact ha j h'
              · obtain rfl : j = i := by omega
                exact he
            · simp only [w_succ (i := i) (n := a.length) (by omega) (by omega), leS_mk, leL_cons, leL_nil, le_junk, le_int, le_bool, le_nil, leLL_nil, leLL_cons, leH_cons, leH_nil, leH1_box, leH1_own, leH1_gone, le_vs, le_agg, le_tup, le_ptr, le_own, le_xp, le_fn, le_opt, le_val, le_elem, le_nil_own, le_nil_vs, leH_ghost, leL_chunk, leXL_id, bnd_int, bnd_bool, bnd_val, bnd_nil, bnd_junk, bnd_vs, bnd_xp, bnd_agg, bnd_tup, bnd_ptr, bnd_own, bnd_elem, bnd_fn, bnd_iface, bnd_opt, bndL_nil, bndL_cons, lenH_cons, lenH_nil, imp_self, implies_true, true_and, and_true] <;> simp
        · have e : a = b := list_ext hlen fun i h => ha i (by omega)
          rw [decide_eq_true e] at h; exact ans_bool h
  · exact h.1.elim
end Go.Proofs.Ytojaibhjfeojjaa

/- Layouts, walked: the document's examples. -/
/- Layouts, walked: the document's examples. -/
set_option linter.all false
namespace Go.Proofs.Ytojaibhjfeojjaa
open Go Go.Vx
set_option maxRecDepth 100000
set_option maxHeartbeats 4000000

def bA (d : Int) : Brd := ⟨100, d, 2, 50, 3, [(50, 100)]⟩
def lA (x : Int) : List Std := [⟨50, 50, 5, 10⟩, ⟨x, 70, 5, 20⟩]
def fA : List Ft := [(20, 1), (20, 1), (10, 1), (10, 1), (10, 1), (5, 1)]
def rA : List Std := [⟨20, 20, 20, 1⟩, ⟨62, 20, 20, 1⟩, ⟨10, 52, 10, 1⟩, ⟨32, 52, 10, 1⟩, ⟨54, 52, 10, 1⟩, ⟨71, 52, 5, 1⟩]
theorem reach1 : reachR (bA 100) (lA 57) 0 = ([], 0) := by decide +kernel
theorem reach2 : reachR (bA 100) (lA 58) 0 = ([0], 0) := by decide +kernel
theorem rows1 : rowsR (bA 70) fA = (rA, 0) := by decide +kernel
theorem order1 : orderR 5 2 = ([0, 2, 4, 3, 1], 0) := by decide +kernel

def M0 : Env := { ct := fun n => match n with | 32 => some sdC | 16 => some samIC | 13 => some samSC | 17 => some reaC | 11 => some rowC | 14 => some ordC | _ => none, fn := fun _ => none, meth := fun _ _ => none }
theorem M0_ct32 : M0.ct 32 = some sdC := rfl
theorem M0_ct16 : M0.ct 16 = some samIC := rfl
theorem M0_ct13 : M0.ct 13 = some samSC := rfl
theorem M0_ct17 : M0.ct 17 = some reaC := rfl
theorem M0_ct11 : M0.ct 11 = some rowC := rfl
theorem M0_ct14 : M0.ct 14 = some ordC := rfl
theorem M0_ok : EnvOk Try.prog M0 := by
  refine ⟨fun f c h => ?_, fun f vf h => ?_, (fun _ _ _ h => by cases h), by kernel_rfl⟩
  · simp only [M0] at h
    split at h
    · cases h; exact ⟨sd_ok, Try.f32, Try.func32, by kernel_rfl, by kernel_rfl⟩
    · cases h; exact ⟨samI_ok, Try.f16, Try.func16, by kernel_rfl, by kernel_rfl⟩
    · cases h; exact ⟨samS_ok, Try.f13, Try.func13, by kernel_rfl, by kernel_rfl⟩
    · cases h; exact ⟨rea_ok, Try.f17, Try.func17, by kernel_rfl, by kernel_rfl⟩
    · cases h; exact ⟨row_ok, Try.f11, Try.func11, by kernel_rfl, by kernel_rfl⟩
    · cases h; exact ⟨ord_ok, Try.f14, Try.func14, by kernel_rfl, by kernel_rfl⟩
    · cases h
  · cases h

theorem awake_ok : trueC.ok Try.prog 10 := by
  refine contract Try.func10 v10_is M0_ok 400 trueC fun args k h => ?_
  simp only [trueC] at h
  split at h
  · refine ⟨[], trivial, ?_⟩
    have h : k (.bool true) [] := h
    dsimp only [v10, M0_ct32, M0_ct17, sdC, reaC, lsR, encI, go_sem, Option.bind, Option.map, List.append_nil, Nat.beq, List.cons_append, List.nil_append, List.append_eq, List.map_cons, List.map_nil, ite_self, reduceIte]
    simp only [true_and, and_true, imp_self, implies_true, decide_eq_true_eq, decide_eq_false_iff_not, Nat.reduceAdd, Nat.reduceLeDiff, Bool.not_not, reduceCtorEq, false_imp_iff, Bool.not_eq_true', Bool.not_eq_false', Bool.false_eq_true, and_self, forall_const, ne_eq, not_false_eq_true, Nat.reduceEqDiff]
    refine ⟨by decide, by decide, bA 100, lA 57, ⟨⟨⟨rfl, rfl, rfl, rfl, rfl⟩, rfl, rfl, fun k hk => match k, hk with | 0, _ => ⟨⟨rfl, rfl⟩, ⟨rfl, rfl⟩, trivial⟩⟩, ⟨rfl, rfl, fun k hk => match k, hk with
      | 0, _ => ⟨⟨rfl, rfl⟩, ⟨rfl, rfl⟩, ⟨rfl, rfl⟩, ⟨rfl, rfl⟩, trivial⟩ 
      | 1, _ => ⟨⟨rfl, rfl⟩, ⟨rfl, rfl⟩, ⟨rfl, rfl⟩, ⟨rfl, rfl⟩, trivial⟩⟩, by decide⟩, by decide, by decide, by decide, by decide,
      bA 100, lA 58, ⟨⟨⟨rfl, rfl, rfl, rfl, rfl⟩, rfl, rfl, fun k hk => match k, hk with | 0, _ => ⟨⟨rfl, rfl⟩, ⟨rfl, rfl⟩, trivial⟩⟩, ⟨rfl, rfl, fun k hk => match k, hk with
      | 0, _ => ⟨⟨rfl, rfl⟩, ⟨rfl, rfl⟩, ⟨rfl, rfl⟩, ⟨rfl, rfl⟩, trivial⟩ 
      | 1, _ => ⟨⟨rfl, rfl⟩, ⟨rfl, rfl⟩, ⟨rfl, rfl⟩, ⟨rfl, rfl⟩, trivial⟩⟩, by decide⟩, ?_⟩
    rw [reach1, reach2]
    refine ⟨by decide, by decide, ?_⟩
    refine Loop.keep [1, 1, 0, 0, 0] Nat (fun i => [(7, .own 3 0 i 2), (8, .int .i64 i)]) (fun i => [(3, .own (decide (i = 0)) 2 i (fun k => encT (fA.getD k default)))]) [.gone] (fun i => i ≤ 6) (fun i => 6 - i) ?_ ?_
    · refine ⟨0, Nat.zero_le _, ?_⟩
      dsimp only [go_sem, Option.bind, Option.map, List.append_nil, Nat.beq, List.cons_append, List.nil_append, List.append_eq, List.map_cons, List.map_nil, ite_self, reduceIte]
      simp only [leS_mk, leL_cons, leL_nil, le_junk, le_int, le_bool, le_nil, leLL_nil, leLL_cons, leH_cons, leH_nil, leH1_box, leH1_own, leH1_gone, le_vs, le_agg, le_tup, le_ptr, le_own, le_xp, le_fn, le_opt, le_val, le_elem, le_nil_own, le_nil_vs, leH_ghost, leL_chunk, leXL_id, bnd_int, bnd_bool, bnd_val, bnd_nil, bnd_junk, bnd_vs, bnd_xp, bnd_agg, bnd_tup, bnd_ptr, bnd_own, bnd_elem, bnd_fn, bnd_iface, bnd_opt, bndL_nil, bndL_cons, lenH_cons, lenH_nil, imp_self, implies_true, true_and, and_true]
      simp
      intro k hk
      rcases (by omega : k = 0 ∨ k = 1) with rfl | rfl <;> simp [leL, le, spliceL, takeL, dropL]
    · rintro i hi
      rcases (by omega : i = 6 ∨ i = 0 ∨ i = 1 ∨ i = 2 ∨ i = 3 ∨ i = 4 ∨ i = 5) with rfl | rfl | rfl | rfl | rfl | rfl | rfl
      all_goals
        dsimp only [M0_ct16, M0_ct13, M0_ct32, M0_ct11, M0_ct14, sdC, rowC, ordC, samIC, samSC, samC, lsS, encT, encI, encS, go_sem, Option.bind, Option.map, List.append_nil, Nat.beq, List.cons_append, List.nil_append, List.append_eq, List.map_cons, List.map_nil, ite_self, reduceIte]
        simp only [true_and, and_true, imp_self, implies_true, decide_eq_true_eq, decide_eq_false_iff_not, Nat.reduceAdd, Nat.reduceLeDiff, Bool.not_not, reduceCtorEq, false_imp_iff, Bool.not_eq_true', Bool.not_eq_false', Bool.false_eq_true, and_self, forall_const, ne_eq, not_false_eq_true, Nat.reduceEqDiff]
      rotate_left
      · refine ⟨fun _ => ⟨by decide, ⟨by decide, by decide⟩, ⟨by decide, by decide⟩, ⟨by decide, by simp [ones, one, takeL, dropL], by decide⟩, ⟨⟨by decide, by simp [ones, one, takeL, dropL, spliceL]⟩, by decide⟩, ⟨by unfold capOk; omega, fun q hq => ?_⟩, 1, by decide, by decide, ?_⟩, fun hge => by omega⟩
        · obtain rfl : q = 0 := by omega
          simp [ones, one, takeL, dropL, spliceL, lenL]
        · simp only [leS_mk, leL_cons, leL_nil, le_junk, le_int, le_bool, le_nil, leLL_nil, leLL_cons, leH_cons, leH_nil, leH1_box, leH1_own, leH1_gone, le_vs, le_agg, le_tup, le_ptr, le_own, le_xp, le_fn, le_opt, le_val, le_elem, le_nil_own, le_nil_vs, leH_ghost, leL_chunk, leXL_id, bnd_int, bnd_bool, bnd_val, bnd_nil, bnd_junk, bnd_vs, bnd_xp, bnd_agg, bnd_tup, bnd_ptr, bnd_own, bnd_elem, bnd_fn, bnd_iface, bnd_opt, bndL_nil, bndL_cons, lenH_cons, lenH_nil, imp_self, implies_true, true_and, and_true]
          refine ⟨⟨by decide, by decide, by decide +kernel⟩, fun q hq => ?_, by decide, fun q hq => ?_, by decide, fun q hq => ?_⟩
          · obtain rfl : q = 0 := by omega
            simp [takeL, dropL, spliceL, purgeL, purge, leL, le, refs, chunk]
          · rcases (by omega : q = 0 ∨ q = 1) with rfl | rfl <;> simp [takeL, dropL, spliceL, purgeL, purge, leL, le, refs, chunk]
          · rcases (by omega : q = 0) with rfl <;> simp [takeL, dropL, spliceL, purgeL, purge, leL, le, refs, chunk, fA]
      · refine ⟨fun _ => ⟨by decide, ⟨by decide, by decide⟩, ⟨by decide, by decide⟩, ⟨by decide, by simp [ones, one, takeL, dropL], by decide⟩, ⟨⟨by decide, by simp [ones, one, takeL, dropL, spliceL]⟩, by decide⟩, ⟨by unfold capOk; omega, fun q hq => ?_⟩, 2, by decide, by decide, ?_⟩, fun hge => by omega⟩
        · obtain rfl : q = 0 := by omega
          simp [ones, one, takeL, dropL, spliceL, lenL]
        · simp only [leS_mk, leL_cons, leL_nil, le_junk, le_int, le_bool, le_nil, leLL_nil, leLL_cons, leH_cons, leH_nil, leH1_box, leH1_own, leH1_gone, le_vs, le_agg, le_tup, le_ptr, le_own, le_xp, le_fn, le_opt, le_val, le_elem, le_nil_own, le_nil_vs, leH_ghost, leL_chunk, leXL_id, bnd_int, bnd_bool, bnd_val, bnd_nil, bnd_junk, bnd_vs, bnd_xp, bnd_agg, bnd_tup, bnd_ptr, bnd_own, bnd_elem, bnd_fn, bnd_iface, bnd_opt, bndL_nil, bndL_cons, lenH_cons, lenH_nil, imp_self, implies_true, true_and, and_true]
          refine ⟨⟨by decide, by decide, by decide +kernel⟩, fun q hq => ?_, by decide, fun q hq => ?_, by decide, fun q hq => ?_⟩
          · obtain rfl : q = 0 := by omega
            simp [takeL, dropL, spliceL, purgeL, purge, leL, le, refs, chunk]
          · rcases (by omega : q = 0 ∨ q = 1) with rfl | rfl <;> simp [takeL, dropL, spliceL, purgeL, purge, leL, le, refs, chunk]
          · rcases (by omega : q = 0 ∨ q = 1) with rfl | rfl <;> simp [takeL, dropL, spliceL, purgeL, purge, leL, le, refs, chunk, fA]
      · refine ⟨fun _ => ⟨by decide, ⟨by decide, by decide⟩, ⟨by decide, by decide⟩, ⟨by decide, by simp [ones, one, takeL, dropL], by decide⟩, ⟨⟨by decide, by simp [ones, one, takeL, dropL, spliceL]⟩, by decide⟩, ⟨by unfold capOk; omega, fun q hq => ?_⟩, 3, by decide, by decide, ?_⟩, fun hge => by omega⟩
        · obtain rfl : q = 0 := by omega
          simp [ones, one, takeL, dropL, spliceL, lenL]
        · simp only [leS_mk, leL_cons, leL_nil, le_junk, le_int, le_bool, le_nil, leLL_nil, leLL_cons, leH_cons, leH_nil, leH1_box, leH1_own, leH1_gone, le_vs, le_agg, le_tup, le_ptr, le_own, le_xp, le_fn, le_opt, le_val, le_elem, le_nil_own, le_nil_vs, leH_ghost, leL_chunk, leXL_id, bnd_int, bnd_bool, bnd_val, bnd_nil, bnd_junk, bnd_vs, bnd_xp, bnd_agg, bnd_tup, bnd_ptr, bnd_own, bnd_elem, bnd_fn, bnd_iface, bnd_opt, bndL_nil, bndL_cons, lenH_cons, lenH_nil, imp_self, implies_true, true_and, and_true]
          refine ⟨⟨by decide, by decide, by decide +kernel⟩, fun q hq => ?_, by decide, fun q hq => ?_, by decide, fun q hq => ?_⟩
          · obtain rfl : q = 0 := by omega
            simp [takeL, dropL, spliceL, purgeL, purge, leL, le, refs, chunk]
          · rcases (by omega : q = 0 ∨ q = 1) with rfl | rfl <;> simp [takeL, dropL, spliceL, purgeL, purge, leL, le, refs, chunk]
          · rcases (by omega : q = 0 ∨ q = 1 ∨ q = 2) with rfl | rfl | rfl <;> simp [takeL, dropL, spliceL, purgeL, purge, leL, le, refs, chunk, fA]
      · refine ⟨fun _ => ⟨by decide, ⟨by decide, by decide⟩, ⟨by decide, by decide⟩, ⟨by decide, by simp [ones, one, takeL, dropL], by decide⟩, ⟨⟨by decide, by simp [ones, one, takeL, dropL, spliceL]⟩, by decide⟩, ⟨by unfold capOk; omega, fun q hq => ?_⟩, 4, by decide, by decide, ?_⟩, fun hge => by omega⟩
        · obtain rfl : q = 0 := by omega
          simp [ones, one, takeL, dropL, spliceL, lenL]
        · simp only [leS_mk, leL_cons, leL_nil, le_junk, le_int, le_bool, le_nil, leLL_nil, leLL_cons, leH_cons, leH_nil, leH1_box, leH1_own, leH1_gone, le_vs, le_agg, le_tup, le_ptr, le_own, le_xp, le_fn, le_opt, le_val, le_elem, le_nil_own, le_nil_vs, leH_ghost, leL_chunk, leXL_id, bnd_int, bnd_bool, bnd_val, bnd_nil, bnd_junk, bnd_vs, bnd_xp, bnd_agg, bnd_tup, bnd_ptr, bnd_own, bnd_elem, bnd_fn, bnd_iface, bnd_opt, bndL_nil, bndL_cons, lenH_cons, lenH_nil, imp_self, implies_true, true_and, and_true]
          refine ⟨⟨by decide, by decide, by decide +kernel⟩, fun q hq => ?_, by decide, fun q hq => ?_, by decide, fun q hq => ?_⟩
          · obtain rfl : q = 0 := by omega
            simp [takeL, dropL, spliceL, purgeL, purge, leL, le, refs, chunk]
          · rcases (by omega : q = 0 ∨ q = 1) with rfl | rfl <;> simp [takeL, dropL, spliceL, purgeL, purge, leL, le, refs, chunk]
          · rcases (by omega : q = 0 ∨ q = 1 ∨ q = 2 ∨ q = 3) with rfl | rfl | rfl | rfl <;> simp [takeL, dropL, spliceL, purgeL, purge, leL, le, refs, chunk, fA]
      · refine ⟨fun _ => ⟨by decide, ⟨by decide, by decide⟩, ⟨by decide, by decide⟩, ⟨by decide, by simp [ones, one, takeL, dropL], by decide⟩, ⟨⟨by decide, by simp [ones, one, takeL, dropL, spliceL]⟩, by decide⟩, ⟨by unfold capOk; omega, fun q hq => ?_⟩, 5, by decide, by decide, ?_⟩, fun hge => by omega⟩
        · obtain rfl : q = 0 := by omega
          simp [ones, one, takeL, dropL, spliceL, lenL]
        · simp only [leS_mk, leL_cons, leL_nil, le_junk, le_int, le_bool, le_nil, leLL_nil, leLL_cons, leH_cons, leH_nil, leH1_box, leH1_own, leH1_gone, le_vs, le_agg, le_tup, le_ptr, le_own, le_xp, le_fn, le_opt, le_val, le_elem, le_nil_own, le_nil_vs, leH_ghost, leL_chunk, leXL_id, bnd_int, bnd_bool, bnd_val, bnd_nil, bnd_junk, bnd_vs, bnd_xp, bnd_agg, bnd_tup, bnd_ptr, bnd_own, bnd_elem, bnd_fn, bnd_iface, bnd_opt, bndL_nil, bndL_cons, lenH_cons, lenH_nil, imp_self, implies_true, true_and, and_true]
          refine ⟨⟨by decide, by decide, by decide +kernel⟩, fun q hq => ?_, by decide, fun q hq => ?_, by decide, fun q hq => ?_⟩
          · obtain rfl : q = 0 := by omega
            simp [takeL, dropL, spliceL, purgeL, purge, leL, le, refs, chunk]
          · rcases (by omega : q = 0 ∨ q = 1) with rfl | rfl <;> simp [takeL, dropL, spliceL, purgeL, purge, leL, le, refs, chunk]
          · rcases (by omega : q = 0 ∨ q = 1 ∨ q = 2 ∨ q = 3 ∨ q = 4) with rfl | rfl | rfl | rfl | rfl <;> simp [takeL, dropL, spliceL, purgeL, purge, leL, le, refs, chunk, fA]
      · refine ⟨fun _ => ⟨by decide, ⟨by decide, by decide⟩, ⟨by decide, by decide⟩, ⟨by decide, by simp [ones, one, takeL, dropL], by decide⟩, ⟨⟨by decide, by simp [ones, one, takeL, dropL, spliceL]⟩, by decide⟩, ⟨by unfold capOk; omega, fun q hq => ?_⟩, 6, by decide, by decide, ?_⟩, fun hge => by omega⟩
        · obtain rfl : q = 0 := by omega
          simp [ones, one, takeL, dropL, spliceL, lenL]
        · simp only [leS_mk, leL_cons, leL_nil, le_junk, le_int, le_bool, le_nil, leLL_nil, leLL_cons, leH_cons, leH_nil, leH1_box, leH1_own, leH1_gone, le_vs, le_agg, le_tup, le_ptr, le_own, le_xp, le_fn, le_opt, le_val, le_elem, le_nil_own, le_nil_vs, leH_ghost, leL_chunk, leXL_id, bnd_int, bnd_bool, bnd_val, bnd_nil, bnd_junk, bnd_vs, bnd_xp, bnd_agg, bnd_tup, bnd_ptr, bnd_own, bnd_elem, bnd_fn, bnd_iface, bnd_opt, bndL_nil, bndL_cons, lenH_cons, lenH_nil, imp_self, implies_true, true_and, and_true]
          refine ⟨⟨by decide, by decide, by decide +kernel⟩, fun q hq => ?_, by decide, fun q hq => ?_, by decide, fun q hq => ?_⟩
          · obtain rfl : q = 0 := by omega
            simp [takeL, dropL, spliceL, purgeL, purge, leL, le, refs, chunk]
          · rcases (by omega : q = 0 ∨ q = 1) with rfl | rfl <;> simp [takeL, dropL, spliceL, purgeL, purge, leL, le, refs, chunk]
          · rcases (by omega : q = 0 ∨ q = 1 ∨ q = 2 ∨ q = 3 ∨ q = 4 ∨ q = 5) with rfl | rfl | rfl | rfl | rfl | rfl <;> simp [takeL, dropL, spliceL, purgeL, purge, leL, le, refs, chunk, fA]
      · refine ⟨fun h => by omega, fun _ => ⟨bA 70, fA, ⟨⟨⟨rfl, rfl, rfl, rfl, rfl⟩, rfl, rfl, fun k hk => match k, hk with | 0, _ => ⟨⟨rfl, rfl⟩, ⟨rfl, rfl⟩, trivial⟩⟩, ⟨rfl, rfl, fun k hk => leXL_self _⟩, by decide⟩, by decide, by decide, fun z => ⟨by decide, by decide, ?_⟩⟩⟩
        rw [rows1, order1]
        refine ⟨fun hc => absurd hc (by decide), fun _ => ?_⟩
        refine ⟨fun _ => ⟨by decide, [0], [0], fun _ => ⟨⟨rfl, rfl, fun k hk => leXL_self _⟩, ⟨rfl, rfl, fun k hk => match k, hk with | 0, _ => ⟨⟨rfl, rfl⟩, trivial⟩⟩, by decide⟩, fun _ => ⟨by decide, rA, rA, fun _ => ⟨⟨rfl, rfl, fun k hk => leXL_self _⟩, ⟨rfl, rfl, fun k hk => match k, hk with | 0, _ => ⟨⟨rfl, rfl⟩, ⟨rfl, rfl⟩, ⟨rfl, rfl⟩, ⟨rfl, rfl⟩, trivial⟩ | 1, _ => ⟨⟨rfl, rfl⟩, ⟨rfl, rfl⟩, ⟨rfl, rfl⟩, ⟨rfl, rfl⟩, trivial⟩ | 2, _ => ⟨⟨rfl, rfl⟩, ⟨rfl, rfl⟩, ⟨rfl, rfl⟩, ⟨rfl, rfl⟩, trivial⟩ | 3, _ => ⟨⟨rfl, rfl⟩, ⟨rfl, rfl⟩, ⟨rfl, rfl⟩, ⟨rfl, rfl⟩, trivial⟩ | 4, _ => ⟨⟨rfl, rfl⟩, ⟨rfl, rfl⟩, ⟨rfl, rfl⟩, ⟨rfl, rfl⟩, trivial⟩ | 5, _ => ⟨⟨rfl, rfl⟩, ⟨rfl, rfl⟩, ⟨rfl, rfl⟩, ⟨rfl, rfl⟩, trivial⟩⟩, by decide⟩, fun _ => ⟨by decide, [0, 2, 4, 3, 1], [0, 2, 4, 3, 1], fun _ => ⟨⟨rfl, rfl, fun k hk => leXL_self _⟩, ⟨rfl, rfl, fun k hk => match k, hk with | 0, _ => ⟨⟨rfl, rfl⟩, trivial⟩ | 1, _ => ⟨⟨rfl, rfl⟩, trivial⟩ | 2, _ => ⟨⟨rfl, rfl⟩, trivial⟩ | 3, _ => ⟨⟨rfl, rfl⟩, trivial⟩ | 4, _ => ⟨⟨rfl, rfl⟩, trivial⟩⟩, by decide⟩, ?_⟩, fun hc => absurd hc (by decide)⟩, fun hc => absurd hc (by decide)⟩, fun hc => absurd hc (by decide)⟩
        exact ans_bool h
  · exact h.1.elim
end Go.Proofs.Ytojaibhjfeojjaa

/- Layouts, walked: the reference's checks. -/
/- Layouts, walked: the reference's checks. -/
set_option linter.all false
namespace Go.Proofs.Ytojaibhjfeojjaa
open Go Go.Vx
set_option maxRecDepth 100000
set_option maxHeartbeats 4000000

def v61 : VF := { ntmps := 15, res := [.tmp 6], body :=
 (.seq (.region [u1 6 .mov [.cn (.bool false)]])
 (.seq (.region [u1 7 .mov [.tm 0],
 u1 8 .mov [.tm 1],
 u1 9 (.cmp .geq) [.tm 7, .tm 8],
 u1 10 .mov [.tm 9],
 u2 11 10 true .mov [.tm 0],
 u2 12 10 true .mov [.tm 2],
 u2 13 10 true (.cmp .leq) [.tm 11, .tm 12],
 u1 14 .and [.tm 10, .tm 13],
 u1 6 .mov [.tm 14]])
 .ret)) }
theorem v61_is : vfunc Try.prog Try.f61 = some v61 := by kernel_rfl
def v39 : VF := { ntmps := 57, res := [.tmp 2], body :=
 (.seq (.region [u1 1 .box [.tm 0],
 u1 2 .mov [.cn (.bool false)]])
 (.seq (.seq (.region [u1 4 (.fieldAddr 0) [.tm 1],
 u1 5 (.load false 1) [.tm 4],
 u1 6 (.call 61) [.tm 5, .cn (.int .i64 1), .cn (.int .i64 10000000)],
 u1 7 .not [.tm 6],
 u1 8 .mov [.tm 7],
 u2 9 8 false (.fieldAddr 1) [.tm 1],
 u2 10 8 false (.load false 1) [.tm 9],
 u2 11 8 false (.call 61) [.tm 10, .cn (.int .i64 1), .cn (.int .i64 10000000)],
 u2 12 8 false .not [.tm 11],
 u1 13 .or [.tm 8, .tm 12],
 u1 14 .mov [.tm 13],
 u2 15 14 false (.fieldAddr 2) [.tm 1],
 u2 16 14 false (.load false 1) [.tm 15],
 u2 17 14 false (.call 61) [.tm 16, .cn (.int .i64 0), .cn (.int .i64 1000000)],
 u2 18 14 false .not [.tm 17],
 u1 19 .or [.tm 14, .tm 18],
 u1 20 .mov [.tm 19],
 u2 21 20 false (.fieldAddr 4) [.tm 1],
 u2 22 20 false (.load false 1) [.tm 21],
 u2 23 20 false (.call 61) [.tm 22, .cn (.int .i64 0), .cn (.int .i64 1000000)],
 u2 24 20 false .not [.tm 23],
 u1 25 .or [.tm 20, .tm 24],
 u1 26 .mov [.tm 25],
 u2 27 26 false (.fieldAddr 3) [.tm 1],
 u2 28 26 false (.load false 1) [.tm 27],
 u2 29 26 false (.call 61) [.tm 28, .cn (.int .i64 1), .cn (.int .i64 10000000)],
 u2 30 26 false .not [.tm 29],
 u1 31 .or [.tm 26, .tm 30]])
 (.cond (.tm 31) (.seq (.region [u1 2 .mov [.cn (.bool false)]])
 .ret)
  .skip))
 (.seq (.seq (.region [u1 3 .mov [.cn (.int .i64 0)]])
 (.block 0 (.loop (.seq (.seq (.region [u1 32 .mov [.tm 3],
 u1 33 (.fieldAddr 5) [.tm 1],
 u1 34 (.load false 1) [.tm 33],
 u1 35 .len [.tm 34],
 u1 36 (.cmp .lss) [.tm 32, .tm 35]])
 (.cond (.tm 36) .skip
  (.exit 0)))
 (.seq (.block 1 (.seq (.region [u1 39 (.fieldAddr 5) [.tm 1],
 u1 40 (.load false 1) [.tm 39],
 u1 41 .mov [.tm 3],
 u1 42 (.idxAddr 2) [.tm 40, .tm 41],
 u1 43 (.fieldAddr 0) [.tm 42],
 u1 44 (.load false 1) [.tm 43],
 u1 45 (.call 61) [.tm 44, .cn (.int .i64 (-10000000)), .cn (.int .i64 20000000)],
 u1 46 .not [.tm 45],
 u1 47 .mov [.tm 46],
 u2 48 47 false (.fieldAddr 5) [.tm 1],
 u2 49 47 false (.load false 1) [.tm 48],
 u2 50 47 false .mov [.tm 3],
 u2 51 47 false (.idxAddr 2) [.tm 49, .tm 50],
 u2 52 47 false (.fieldAddr 1) [.tm 51],
 u2 53 47 false (.load false 1) [.tm 52],
 u2 54 47 false (.call 61) [.tm 53, .cn (.int .i64 (-10000000)), .cn (.int .i64 20000000)],
 u2 55 47 false .not [.tm 54],
 u1 56 .or [.tm 47, .tm 55]])
 (.cond (.tm 56) (.seq (.region [u1 2 .mov [.cn (.bool false)]])
 .ret)
  .skip)))
 (.region [u1 37 .mov [.tm 3],
 u1 38 (.ari .add) [.tm 37, .cn (.int .i64 1)],
 u1 3 .mov [.tm 38]]))))))
 (.seq (.region [u1 2 .mov [.cn (.bool true)]])
 .ret)))) }
theorem v39_is : vfunc Try.prog Try.f39 = some v39 := by kernel_rfl
def v40 : VF := { ntmps := 11, res := [.tmp 4], body :=
 (.seq (.region [u1 4 .mov [.cn (.bool false)]])
 (.seq (.region [u1 5 .mov [.tm 0],
 u1 6 (.call 61) [.tm 5, .cn (.int .i64 1), .cn (.int .i64 1000000)],
 u1 7 .mov [.tm 6],
 u2 8 7 true .mov [.tm 1],
 u2 9 7 true (.call 61) [.tm 8, .cn (.int .i64 1), .cn (.int .i64 12000000)],
 u1 10 .and [.tm 7, .tm 9],
 u1 4 .mov [.tm 10]])
 .ret)) }
theorem v40_is : vfunc Try.prog Try.f40 = some v40 := by kernel_rfl
def frC : Ctr := { alias := false, of := fun l => match l with
  | [.int .i64 n, .int .i64 lo, .int .i64 hi] => .fin (.bool (!outF n lo hi)) []
  | _ => noC }
def N0 : Env := { ct := fun _ => none, fn := fun _ => none, meth := fun _ _ => none }
theorem N0_ok : EnvOk Try.prog N0 := by
  refine ⟨fun f c h => ?_, fun f vf h => ?_, (fun _ _ _ h => by cases h), by kernel_rfl⟩
  · cases h
  · cases h

theorem fr_ok : frC.ok Try.prog 61 := by
  refine contract Try.func61 v61_is N0_ok 100 frC fun args k h => ⟨args, ?_⟩
  simp only [frC] at h
  split at h
  · rename_i n lo hi
    refine ⟨by simp [leL, le], ?_⟩
    dsimp only [v61, go_sem, Option.bind, Option.map, List.append_nil, Nat.beq, List.cons_append, List.nil_append, List.append_eq, List.map_cons, List.map_nil, ite_self, reduceIte]
    simp only [true_and, and_true, imp_self, implies_true, decide_eq_true_eq, decide_eq_false_iff_not, Nat.reduceAdd, Nat.reduceLeDiff, Bool.not_not, reduceCtorEq, false_imp_iff, Bool.not_eq_true', Bool.not_eq_false', Bool.false_eq_true, and_self, forall_const, ne_eq, not_false_eq_true, Nat.reduceEqDiff]
    have h : k _ [] := h
    have e : (!outF n lo hi) = (decide (lo ≤ n) && decide (n ≤ hi)) := by
      rw [Bool.eq_iff_iff]; simp only [outF, Bool.not_eq_true', Bool.or_eq_false_iff, Bool.and_eq_true, decide_eq_true_eq, decide_eq_false_iff_not]; omega
    rw [e] at h
    exact ans_bool h
  · exact h.1.elim
def rftC : Ctr := { alias := false, of := fun l => match l with
  | [.int .i64 r, .int .i64 h] => .fin (.bool (!footF r h)) []
  | _ => noC }
def N1 : Env := { ct := fun n => match n with | 61 => some frC | _ => none, fn := fun _ => none, meth := fun _ _ => none }
theorem N1_ct61 : N1.ct 61 = some frC := rfl
theorem N1_ok : EnvOk Try.prog N1 := by
  refine ⟨fun f c h => ?_, fun f vf h => ?_, (fun _ _ _ h => by cases h), by kernel_rfl⟩
  · simp only [N1] at h
    split at h
    · cases h; exact ⟨fr_ok, Try.f61, Try.func61, by kernel_rfl, by kernel_rfl⟩
    · cases h
  · cases h

theorem rft_ok : rftC.ok Try.prog 40 := by
  refine contract Try.func40 v40_is N1_ok 100 rftC fun args k h => ⟨args, ?_⟩
  simp only [rftC] at h
  split at h
  · rename_i r hh
    refine ⟨by simp [leL, le], ?_⟩
    dsimp only [v40, N1_ct61, frC, go_sem, Option.bind, Option.map, List.append_nil, Nat.beq, List.cons_append, List.nil_append, List.append_eq, List.map_cons, List.map_nil, ite_self, reduceIte]
    simp only [true_and, and_true, imp_self, implies_true, decide_eq_true_eq, decide_eq_false_iff_not, Nat.reduceAdd, Nat.reduceLeDiff, Bool.not_not, reduceCtorEq, false_imp_iff, Bool.not_eq_true', Bool.not_eq_false', Bool.false_eq_true, and_self, forall_const, ne_eq, not_false_eq_true, Nat.reduceEqDiff]
    have h : k _ [] := h
    rw [footF, Bool.not_or] at h
    exact ans_bool h
  · exact h.1.elim
def rbdC : Ctr := { alias := false, of := fun l => match l with
  | [.agg [.int .i64 w, .int .i64 d, .int .i64 c, .int .i64 a, .int .i64 s, .vs _ _ n sz get]] => .ex Brd fun b => .pre (brdP b w d c a s n sz get ∧ b.wk.length ≤ 8) (.fin (.bool (!wrongF b)) [])
  | _ => noC }
theorem rbd_ok : rbdC.ok Try.prog 39 := by
  refine contract Try.func39 v39_is N1_ok 100 rbdC fun args k h => ?_
  simp only [rbdC] at h
  split at h
  · rename_i w d c a s t z n sz get
    obtain ⟨b, ⟨hb, h8⟩, h⟩ := h
    refine ⟨[.agg (encB t z b)], ⟨brd_le hb, trivial⟩, ?_⟩
    have h : k (.bool (!wrongF b)) [] := h
    dsimp only [v39, N1_ct61, frC, encB, encT, go_sem, Option.bind, Option.map, List.append_nil, Nat.beq, List.cons_append, List.nil_append, List.append_eq, List.map_cons, List.map_nil, ite_self, reduceIte]
    simp only [true_and, and_true, imp_self, implies_true, decide_eq_true_eq, decide_eq_false_iff_not, Nat.reduceAdd, Nat.reduceLeDiff, Bool.not_not, reduceCtorEq, false_imp_iff, Bool.not_eq_true', Bool.not_eq_false', Bool.false_eq_true, and_self, forall_const, ne_eq, not_false_eq_true, Nat.reduceEqDiff]
    refine ⟨fun hc => ?_, fun hc => ?_⟩
    · have e : wrongF b = true := by rw [wrongF, hc]; rfl
      rw [e] at h; exact ans_bool h
    · refine Loop.keep [1, 1] Nat (fun i => [(3, .int .i64 i)]) (fun _ => []) [] (fun i => i ≤ b.wk.length ∧ ∀ j, j < i → placeF (b.wk.getD j default) = false) (fun i => b.wk.length - i) ?_ ?_
      · refine ⟨0, ⟨Nat.zero_le _, fun j h => by omega⟩, ?_⟩
        dsimp only [go_sem, Option.bind, Option.map, List.append_nil, Nat.beq, List.cons_append, List.nil_append, List.append_eq, List.map_cons, List.map_nil, ite_self, reduceIte]
        simp only [leS_mk, leL_cons, leL_nil, le_junk, le_int, le_bool, le_nil, leLL_nil, leLL_cons, leH_cons, leH_nil, leH1_box, leH1_own, leH1_gone, le_vs, le_agg, le_tup, le_ptr, le_own, le_xp, le_fn, le_opt, le_val, le_elem, le_nil_own, le_nil_vs, leH_ghost, leL_chunk, leXL_id, bnd_int, bnd_bool, bnd_val, bnd_nil, bnd_junk, bnd_vs, bnd_xp, bnd_agg, bnd_tup, bnd_ptr, bnd_own, bnd_elem, bnd_fn, bnd_iface, bnd_opt, bndL_nil, bndL_cons, lenH_cons, lenH_nil, imp_self, implies_true, true_and, and_true]
        simp
      · rintro i ⟨hi, ha⟩
        dsimp only [N1_ct61, frC, Int.toNat_natCast, go_sem, Option.bind, Option.map, List.append_nil, Nat.beq, List.cons_append, List.nil_append, List.append_eq, List.map_cons, List.map_nil, ite_self, reduceIte]
        simp only [true_and, and_true, imp_self, implies_true, decide_eq_true_eq, decide_eq_false_iff_not, Nat.reduceAdd, Nat.reduceLeDiff, Bool.not_not, reduceCtorEq, false_imp_iff, Bool.not_eq_true', Bool.not_eq_false', Bool.false_eq_true, and_self, forall_const, ne_eq, not_false_eq_true, Nat.reduceEqDiff]
        refine ⟨fun hlt => ⟨⟨by omega, hlt⟩, fun _ => ⟨by omega, hlt⟩, fun hp => ?_, fun hp => ?_⟩, fun hge => ?_⟩
        · have e : wrongF b = true := by
            rw [wrongF, List.any_eq_true.2 ⟨_, getD_mem (show i < b.wk.length by omega), hp⟩, Bool.or_true]
          rw [e] at h; exact ans_bool h
        · refine ⟨i + 1, ⟨by omega, fun j hj => ?_⟩, by omega, ?_⟩
          · rcases Nat.lt_or_ge j i with h' | h'
            · exact ha j h'
            · obtain rfl : j = i := by omega
              exact hp
          · simp only [w_succ (i := i) (n := b.wk.length) (by omega) (by omega), leS_mk, leL_cons, leL_nil, le_junk, le_int, le_bool, le_nil, leLL_nil, leLL_cons, leH_cons, leH_nil, leH1_box, leH1_own, leH1_gone, le_vs, le_agg, le_tup, le_ptr, le_own, le_xp, le_fn, le_opt, le_val, le_elem, le_nil_own, le_nil_vs, leH_ghost, leL_chunk, leXL_id, bnd_int, bnd_bool, bnd_val, bnd_nil, bnd_junk, bnd_vs, bnd_xp, bnd_agg, bnd_tup, bnd_ptr, bnd_own, bnd_elem, bnd_fn, bnd_iface, bnd_opt, bndL_nil, bndL_cons, lenH_cons, lenH_nil, imp_self, implies_true, true_and, and_true] <;> simp
        · have e : wrongF b = false := by
            rw [wrongF, hc, Bool.false_or]
            refine List.any_eq_false.2 fun x hx => ?_
            obtain ⟨j, hj, rfl⟩ := mem_getD hx
            rw [ha j (by omega)]; simp
          rw [e] at h; exact ans_bool h
  · exact h.1.elim
end Go.Proofs.Ytojaibhjfeojjaa

/- Layouts, walked: the reference's Check. -/
/- Layouts, walked: the reference's Check. -/
set_option linter.all false
namespace Go.Proofs.Ytojaibhjfeojjaa
open Go Go.Vx
set_option maxRecDepth 100000
set_option maxHeartbeats 4000000

end Go.Proofs.Ytojaibhjfeojjaa

/- Layouts in plain Lean: divisions, and which is the best one. -/
/- Layouts in plain Lean: divisions, and which is the best one. -/
set_option linter.all false
namespace Go.Proofs.Ytojaibhjfeojjaa
open Go Go.Vx

/-- A list of numbers is a division of pipes into rows. -/
def dvP (b : Brd) : List Ft → List Nat → Prop
  | l, [] => l = []
  | l, k :: ks => 1 ≤ k ∧ k ≤ l.length ∧ wideG b (-b.c) (l.take k) ≤ b.w ∧ dvP b (l.drop k) ks
/-- Its depth. -/
def dvD (b : Brd) : List Ft → List Nat → Int
  | _, [] => 0
  | l, k :: ks => deepG 0 (l.take k) + dvD b (l.drop k) ks + (if 0 < ks.length then b.c else 0)
/-- The order of lists. -/
def lexLe : List Nat → List Nat → Prop
  | [], _ => True
  | _ :: _, [] => False
  | a :: x, c :: y => a < c ∨ a = c ∧ lexLe x y

theorem head_rows {b : Brd} (hc : 0 ≤ b.c ∧ b.c ≤ 1000000) {l : List Ft} (h2 : l.length ≤ 200) (hl : ∀ f ∈ l, okF f) (hi : (headP b l).is = true) : (0 < (headP b l).rows ↔ 0 < l.length) := by
  rcases Nat.eq_zero_or_pos l.length with h0 | h0
  · have : l = [] := List.eq_nil_of_length_eq_zero h0
    subst this
    rw [plans_nil]; simp
  · obtain ⟨j, hj, _, _, _, e⟩ := head_first hc.1 h0 (fun f hf => (hl f hf).1.1) hi
    have := head_ok hc _ (l.drop (j + 1)) rfl (by rw [List.length_drop]; omega) fun f hf => hl f (List.mem_of_mem_drop hf)
    have e2 : (headP b l).rows = 1 + (headP b (l.drop (j + 1))).rows := by rw [e]; rfl
    omega
theorem div_succ {b : Brd} {n : Nat} {l : List Ft} {j : Nat} (h0 : 0 < l.length) (hf : (headP b l).first = (j : Int) + 1) : divG b (n + 1) l = (j + 1) :: divG b n (l.drop (j + 1)) := by
  rw [divG, if_neg (by omega), hf, show ((j : Int) + 1).toNat = j + 1 by omega]
/-- The number of steps does not matter. -/
theorem div_fuel {b : Brd} (hc : 0 ≤ b.c) : ∀ (n : Nat) (l : List Ft), l.length ≤ n → (∀ f ∈ l, 1 ≤ f.1) → (headP b l).is = true → divG b n l = divL b l := by
  intro n
  induction n using Nat.strongRecOn with
  | ind n ih =>
    intro l hn hl hi
    rcases Nat.eq_zero_or_pos l.length with h0 | h0
    · have : l = [] := List.eq_nil_of_length_eq_zero h0
      subst this
      cases n <;> rfl
    · obtain ⟨j, hj, hf, _, hi2, _⟩ := head_first hc h0 hl hi
      obtain ⟨n, rfl⟩ : ∃ m, n = m + 1 := ⟨n - 1, by omega⟩
      have hl2 : ∀ f ∈ l.drop (j + 1), 1 ≤ f.1 := fun f hf => hl f (List.mem_of_mem_drop hf)
      have hlen : (l.drop (j + 1)).length = l.length - (j + 1) := List.length_drop
      rw [div_succ h0 hf]
      obtain ⟨m, hm⟩ : ∃ m, l.length = m + 1 := ⟨l.length - 1, by omega⟩
      unfold divL
      rw [hm, div_succ h0 hf]
      rw [ih n (by omega) _ (by omega) hl2 hi2]
      rcases Nat.lt_or_ge m (n + 1) with h' | h'
      · rw [ih m h' _ (by omega) hl2 hi2]
      · omega
theorem div_head {b : Brd} (hc : 0 ≤ b.c) {l : List Ft} (h0 : 0 < l.length) (hl : ∀ f ∈ l, 1 ≤ f.1) (hi : (headP b l).is = true) :
    ∃ j, j < l.length ∧ (headP b l).first = (j : Int) + 1 ∧ wideG b (-b.c) (l.take (j + 1)) ≤ b.w ∧ (headP b (l.drop (j + 1))).is = true ∧ headP b l = candF b (deepG 0 (l.take (j + 1))) (headP b (l.drop (j + 1))) j ∧ divL b l = (j + 1) :: divL b (l.drop (j + 1)) := by
  obtain ⟨j, hj, hf, h1, h2, h3⟩ := head_first hc h0 hl hi
  refine ⟨j, hj, hf, h1, h2, h3, ?_⟩
  obtain ⟨m, hm⟩ : ∃ m, l.length = m + 1 := ⟨l.length - 1, by omega⟩
  have hlen : (l.drop (j + 1)).length = l.length - (j + 1) := List.length_drop
  unfold divL
  rw [hm, div_succ h0 hf]
  congr 1
  exact div_fuel hc m _ (by omega) (fun f hf => hl f (List.mem_of_mem_drop hf)) h2
/-- What the plans say is a division. -/
theorem div_is {b : Brd} (hc : 0 ≤ b.c ∧ b.c ≤ 1000000) : ∀ (n : Nat) (l : List Ft), l.length = n → n ≤ 200 → (∀ f ∈ l, okF f) → (headP b l).is = true → dvP b l (divL b l) ∧ dvD b l (divL b l) = (headP b l).depth ∧ ((divL b l).length : Int) = (headP b l).rows := by
  intro n
  induction n using Nat.strongRecOn with
  | ind n ih =>
    intro l hn h2 hl hi
    rcases Nat.eq_zero_or_pos l.length with h0 | h0
    · have : l = [] := List.eq_nil_of_length_eq_zero h0
      subst this
      exact ⟨rfl, rfl, rfl⟩
    · obtain ⟨j, hj, hf, h3, h4, e, ed⟩ := div_head hc.1 h0 (fun f hf => (hl f hf).1.1) hi
      have hl2 : ∀ f ∈ l.drop (j + 1), okF f := fun f hf => hl f (List.mem_of_mem_drop hf)
      have hlen : (l.drop (j + 1)).length = l.length - (j + 1) := List.length_drop
      obtain ⟨i1, i2, i3⟩ := ih _ (by omega) (l.drop (j + 1)) hlen (by omega) hl2 h4
      have hr := head_rows hc (by omega) hl2 h4
      rw [ed]
      refine ⟨⟨by omega, by omega, h3, i1⟩, ?_, ?_⟩
      · show deepG 0 (l.take (j + 1)) + dvD b (l.drop (j + 1)) (divL b (l.drop (j + 1))) + _ = _
        rw [i2, e]
        show _ = deepG 0 (l.take (j + 1)) + (headP b (l.drop (j + 1))).depth + _
        split <;> split <;> omega
      · rw [e, List.length_cons]
        show _ = 1 + (headP b (l.drop (j + 1))).rows
        omega
/-- None is better. -/
theorem div_best {b : Brd} (hc : 0 ≤ b.c ∧ b.c ≤ 1000000) : ∀ (ks : List Nat) (l : List Ft), l.length ≤ 200 → (∀ f ∈ l, okF f) → dvP b l ks →
    (headP b l).is = true ∧ ((headP b l).depth < dvD b l ks ∨ (headP b l).depth = dvD b l ks ∧ ((headP b l).rows < ks.length ∨ (headP b l).rows = ks.length ∧ lexLe (divL b l) ks)) := by
  intro ks
  induction ks with
  | nil =>
    intro l h2 hl hd
    have hd : l = [] := hd
    subst hd
    exact ⟨rfl, .inr ⟨rfl, .inr ⟨rfl, trivial⟩⟩⟩
  | cons k ks ih =>
    intro l h2 hl hd
    obtain ⟨h1, hk, hw, hd⟩ := hd
    obtain ⟨j, rfl⟩ : ∃ j, k = j + 1 := ⟨k - 1, by omega⟩
    have hl2 : ∀ f ∈ l.drop (j + 1), okF f := fun f hf => hl f (List.mem_of_mem_drop hf)
    have hlen : (l.drop (j + 1)).length = l.length - (j + 1) := List.length_drop
    obtain ⟨i1, i2⟩ := ih (l.drop (j + 1)) (by omega) hl2 hd
    have hs := (head_spec hc.1 (by omega : 0 < l.length) fun f hf => (hl f hf).1.1).2 j (by omega) hw i1
    obtain ⟨hi, hle⟩ := hs
    refine ⟨hi, ?_⟩
    have hr := head_rows hc (by omega) hl2 i1
    have hks : 0 < ks.length ↔ 0 < (l.drop (j + 1)).length := by
      cases ks with
      | nil => have hd : l.drop (j + 1) = [] := hd; rw [hd]; simp
      | cons a ks => obtain ⟨h1, h2, _⟩ := hd; rw [List.length_cons]; omega
    obtain ⟨j', hj', hf', _, hi', e', ed'⟩ := div_head hc.1 (by omega : 0 < l.length) (fun f hf => (hl f hf).1.1) hi
    have eD : dvD b l ((j + 1) :: ks) = deepG 0 (l.take (j + 1)) + dvD b (l.drop (j + 1)) ks + (if 0 < ks.length then b.c else 0) := rfl
    have c1 : (candF b (deepG 0 (l.take (j + 1))) (headP b (l.drop (j + 1))) j).depth = deepG 0 (l.take (j + 1)) + (headP b (l.drop (j + 1))).depth + (if 0 < (headP b (l.drop (j + 1))).rows then b.c else 0) := rfl
    have c2 : (candF b (deepG 0 (l.take (j + 1))) (headP b (l.drop (j + 1))) j).rows = 1 + (headP b (l.drop (j + 1))).rows := rfl
    have c3 : (candF b (deepG 0 (l.take (j + 1))) (headP b (l.drop (j + 1))) j).first = (j : Int) + 1 := rfl
    have hif : (if 0 < (headP b (l.drop (j + 1))).rows then b.c else 0) = (if 0 < ks.length then b.c else 0) := by
      by_cases h : 0 < ks.length
      · rw [if_pos h, if_pos (hr.2 (hks.1 h))]
      · rw [if_neg h, if_neg (fun hh => h (hks.2 (hr.1 hh)))]
    rw [hif] at c1
    unfold leP ltP at hle
    rw [c1, c2, c3] at hle
    rw [eD, List.length_cons]
    by_cases hbad : (headP b l).depth = deepG 0 (l.take (j + 1)) + dvD b (l.drop (j + 1)) ks + (if 0 < ks.length then b.c else 0) ∧ (headP b l).rows = ((ks.length + 1 : Nat) : Int)
    · obtain ⟨q1, q2⟩ := hbad
      refine .inr ⟨q1, .inr ⟨q2, ?_⟩⟩
      rw [ed']
      rcases Nat.lt_or_ge j' j with hlt | hge
      · exact .inl (by omega)
      · have hjj : j' = j := by omega
        subst hjj
        refine .inr ⟨rfl, ?_⟩
        have d1 : (headP b l).depth = deepG 0 (l.take (j' + 1)) + (headP b (l.drop (j' + 1))).depth + (if 0 < ks.length then b.c else 0) := by
          rw [← c1]; exact congrArg Plan.depth e'
        have d2 : (headP b l).rows = 1 + (headP b (l.drop (j' + 1))).rows := by
          rw [← c2]; exact congrArg Plan.rows e'
        rcases i2 with i2 | ⟨i2, i3 | ⟨i3, i4⟩⟩
        · omega
        · omega
        · exact i4
    · omega
end Go.Proofs.Ytojaibhjfeojjaa

/- Layouts in plain Lean: fewer pipes are not deeper; how deep a layout is. -/
/- Layouts in plain Lean: fewer pipes are not deeper; how deep a layout is. -/
set_option linter.all false
namespace Go.Proofs.Ytojaibhjfeojjaa
open Go Go.Vx

theorem wideG_app {b : Brd} {w : Int} {l m : List Ft} : wideG b w (l ++ m) = wideG b (wideG b w l) m := by
  unfold wideG; rw [List.foldl_append]
theorem deepG_app {w : Int} {l m : List Ft} : deepG w (l ++ m) = deepG (deepG w l) m := by
  unfold deepG; rw [List.foldl_append]
end Go.Proofs.Ytojaibhjfeojjaa

/- Layouts in plain Lean: reach grows; pipes in rows stand well. -/
/- Layouts in plain Lean: reach grows; pipes in rows stand well. -/
set_option linter.all false
namespace Go.Proofs.Ytojaibhjfeojjaa
open Go Go.Vx

end Go.Proofs.Ytojaibhjfeojjaa

/- Layouts in plain Lean: growth. -/
/- Layouts in plain Lean: growth. -/
set_option linter.all false
namespace Go.Proofs.Ytojaibhjfeojjaa
open Go Go.Vx

end Go.Proofs.Ytojaibhjfeojjaa

/- Layouts in plain Lean: a division's depth as it is counted; rows out of a layout. -/
/- Layouts in plain Lean: a division's depth as it is counted; rows out of a layout. -/
set_option linter.all false
namespace Go.Proofs.Ytojaibhjfeojjaa
open Go Go.Vx

def depF (b : Brd) : List Ft → List Int → Int → Bool → Int × Bool
  | l, [], dep, _ => (dep, decide (l.length = 0))
  | l, k :: ks, dep, fst => if k < 1 ∨ (l.length : Int) < k then (0, false) else if b.w < wideG b (-b.c) (l.take k.toNat) then (0, false) else
      depF b (l.drop k.toNat) ks ((if fst then dep else dep + b.c) + deepG 0 (l.take k.toNat)) false
def castL : List Nat → List Int
  | [] => []
  | n :: ks => (n : Int) :: castL ks
theorem depF_of {b : Brd} : ∀ (ks : List Int) (l : List Ft) (dep : Int) (fst : Bool), (depF b l ks dep fst).2 = true →
    ∃ ks' : List Nat, ks = castL ks' ∧ dvP b l ks' ∧ (depF b l ks dep fst).1 = dep + dvD b l ks' + (if fst then 0 else if 0 < ks'.length then b.c else 0)
  | [], l, dep, fst, h => by
    rw [depF] at h ⊢
    have h := of_decide_eq_true h
    refine ⟨[], rfl, List.eq_nil_of_length_eq_zero h, ?_⟩
    show dep = dep + 0 + _
    cases fst <;> simp
  | k :: ks, l, dep, fst, h => by
    rw [depF] at h ⊢
    split at h
    · cases h
    · rename_i h1
      rw [if_neg h1]
      split at h
      · cases h
      · rename_i h2
        rw [if_neg h2]
        obtain ⟨ks', rfl, e2, e3⟩ := depF_of ks _ _ _ h
        obtain ⟨n, rfl⟩ := Int.eq_ofNat_of_zero_le (show 0 ≤ k by omega)
        simp only [Int.toNat_natCast] at *
        refine ⟨n :: ks', rfl, ⟨by omega, by omega, by omega, e2⟩, ?_⟩
        rw [e3, dvD]
        simp only [Bool.false_eq_true, if_false, List.length_cons]
        cases fst
        · simp only [Bool.false_eq_true, if_false, Nat.zero_lt_succ, if_true]; omega
        · simp only [if_true]; omega
theorem depF_is {b : Brd} : ∀ (ks : List Nat) (l : List Ft) (dep : Int) (fst : Bool), dvP b l ks → depF b l (castL ks) dep fst = (dep + dvD b l ks + (if fst then 0 else if 0 < ks.length then b.c else 0), true)
  | [], l, dep, fst, h => by
    have h : l = [] := h
    subst h
    show depF b [] [] dep fst = _
    rw [depF]
    have : dvD b [] [] = 0 := rfl
    rw [this]
    cases fst <;> simp
  | k :: ks, l, dep, fst, h => by
    obtain ⟨h1, h2, h3, h4⟩ := h
    show depF b l ((k : Int) :: castL ks) dep fst = _
    rw [depF, if_neg (by omega), Int.toNat_natCast, if_neg (by omega), depF_is ks _ _ _ h4, dvD]
    simp only [Bool.false_eq_true, if_false, List.length_cons]
    congr 1
    cases fst
    · simp only [Bool.false_eq_true, if_false, Nat.zero_lt_succ, if_true]; omega
    · simp only [if_true]; omega

end Go.Proofs.Ytojaibhjfeojjaa

/- Layouts, walked: the reference's Depth. -/
/- Layouts, walked: the reference's Depth. -/
set_option linter.all false
namespace Go.Proofs.Ytojaibhjfeojjaa
open Go Go.Vx
set_option maxRecDepth 100000
set_option maxHeartbeats 4000000

def v24 : VF := { ntmps := 93, res := [.tmp 6, .tmp 7], body :=
 (.seq (.region [u1 3 .box [.tm 0],
 u1 6 .mov [.cn (.int .i64 0)],
 u1 7 .mov [.cn (.bool false)]])
 (.seq (.region [u1 8 .mov [.cn (.int .i64 0)],
 u1 9 .mov [.cn (.int .i64 0)]])
 (.seq (.seq (.region [u1 10 .mov [.cn (.int .i64 0)]])
 (.block 0 (.loop (.seq (.seq (.region [u1 14 .mov [.tm 10],
 u1 15 .mov [.tm 2],
 u1 16 .len [.tm 15],
 u1 17 (.cmp .lss) [.tm 14, .tm 16]])
 (.cond (.tm 17) .skip
  (.exit 0)))
 (.seq (.block 1 (.seq (.seq (.region [u1 20 .mov [.tm 2],
 u1 21 .mov [.tm 10],
 u1 22 (.idxAddr 1) [.tm 20, .tm 21],
 u1 23 (.load false 1) [.tm 22],
 u1 24 (.cmp .lss) [.tm 23, .cn (.int .i64 1)],
 u1 25 .mov [.tm 24],
 u2 26 25 false .mov [.tm 2],
 u2 27 25 false .mov [.tm 10],
 u2 28 25 false (.idxAddr 1) [.tm 26, .tm 27],
 u2 29 25 false (.load false 1) [.tm 28],
 u2 30 25 false .mov [.tm 1],
 u2 31 25 false .len [.tm 30],
 u2 32 25 false .mov [.tm 8],
 u2 33 25 false (.ari .sub) [.tm 31, .tm 32],
 u2 34 25 false (.cmp .gtr) [.tm 29, .tm 33],
 u1 35 .or [.tm 25, .tm 34]])
 (.cond (.tm 35) (.seq (.region [u1 6 .mov [.cn (.int .i64 0)],
 u1 7 .mov [.cn (.bool false)]])
 .ret)
  .skip))
 (.seq (.region [u1 36 (.fieldAddr 2) [.tm 3],
 u1 37 (.load false 1) [.tm 36],
 u1 38 .neg [.tm 37],
 u1 11 .mov [.tm 38],
 u1 12 .mov [.cn (.int .i64 0)]])
 (.seq (.seq (.region [u1 39 .mov [.tm 8],
 u1 13 .mov [.tm 39]])
 (.block 2 (.loop (.seq (.seq (.region [u1 40 .mov [.tm 13],
 u1 41 .mov [.tm 8],
 u1 42 .mov [.tm 2],
 u1 43 .mov [.tm 10],
 u1 44 (.idxAddr 1) [.tm 42, .tm 43],
 u1 45 (.load false 1) [.tm 44],
 u1 46 (.ari .add) [.tm 41, .tm 45],
 u1 47 (.cmp .lss) [.tm 40, .tm 46]])
 (.cond (.tm 47) .skip
  (.exit 2)))
 (.seq (.block 3 (.seq (.draw [] [w1 50 .mov [.tm 11],
 w1 51 (.fieldAddr 2) [.tm 3],
 w1 52 (.load false 1) [.tm 51],
 w1 53 (.ari .add) [.tm 50, .tm 52],
 w1 54 .mov [.tm 1],
 w1 55 .mov [.tm 13],
 w1 56 (.idxAddr 2) [.tm 54, .tm 55],
 w1 57 (.fieldAddr 0) [.tm 56],
 w1 58 (.load false 1) [.tm 57],
 w1 59 (.ari .mul) [.cn (.int .i64 2), .tm 58],
 w1 60 (.ari .add) [.tm 53, .tm 59],
 w1 11 .mov [.tm 60]])
 (.region [u1 61 .mov [.tm 12],
 u1 62 .mov [.tm 1],
 u1 63 .mov [.tm 13],
 u1 64 (.idxAddr 2) [.tm 62, .tm 63],
 u1 65 (.fieldAddr 0) [.tm 64],
 u1 66 (.load false 1) [.tm 65],
 u1 67 (.ari .mul) [.cn (.int .i64 2), .tm 66],
 u1 68 .max [.tm 61, .tm 67],
 u1 12 .mov [.tm 68]])))
 (.region [u1 48 .mov [.tm 13],
 u1 49 (.ari .add) [.tm 48, .cn (.int .i64 1)],
 u1 13 .mov [.tm 49]]))))))
 (.seq (.seq (.region [u1 69 .mov [.tm 11],
 u1 70 (.fieldAddr 0) [.tm 3],
 u1 71 (.load false 1) [.tm 70],
 u1 72 (.cmp .gtr) [.tm 69, .tm 71]])
 (.cond (.tm 72) (.seq (.region [u1 6 .mov [.cn (.int .i64 0)],
 u1 7 .mov [.cn (.bool false)]])
 .ret)
  .skip))
 (.seq (.seq (.region [u1 73 .mov [.tm 10],
 u1 74 (.cmp .gtr) [.tm 73, .cn (.int .i64 0)]])
 (.cond (.tm 74) (.region [u1 75 .mov [.tm 9],
 u1 76 (.fieldAddr 2) [.tm 3],
 u1 77 (.load false 1) [.tm 76],
 u1 78 (.ari .add) [.tm 75, .tm 77],
 u1 9 .mov [.tm 78]])
  .skip))
 (.seq (.region [u1 79 .mov [.tm 9],
 u1 80 .mov [.tm 12],
 u1 81 (.ari .add) [.tm 79, .tm 80],
 u1 9 .mov [.tm 81]])
 (.region [u1 82 .mov [.tm 8],
 u1 83 .mov [.tm 2],
 u1 84 .mov [.tm 10],
 u1 85 (.idxAddr 1) [.tm 83, .tm 84],
 u1 86 (.load false 1) [.tm 85],
 u1 87 (.ari .add) [.tm 82, .tm 86],
 u1 8 .mov [.tm 87]]))))))))
 (.region [u1 18 .mov [.tm 10],
 u1 19 (.ari .add) [.tm 18, .cn (.int .i64 1)],
 u1 10 .mov [.tm 19]]))))))
 (.seq (.region [u1 88 .mov [.tm 9],
 u1 89 .mov [.tm 8],
 u1 90 .mov [.tm 1],
 u1 91 .len [.tm 90],
 u1 92 (.cmp .eql) [.tm 89, .tm 91],
 u1 6 .mov [.tm 88],
 u1 7 .mov [.tm 92]])
 .ret)))) }
theorem v24_is : vfunc Try.prog Try.f24 = some v24 := by kernel_rfl


theorem wide_step {b : Brd} {w : Int} {l : List Ft} {t : Nat} (h : t < l.length) : wideG b w (l.take (t + 1)) = wideG b w (l.take t) + (b.c + 2 * (l.getD t default).1) := by
  rw [List.take_add_one, wideG_app, List.getElem?_eq_getElem h, List.getD_eq_getElem?_getD, List.getElem?_eq_getElem h]; rfl
theorem deep_step {w : Int} {l : List Ft} {t : Nat} (h : t < l.length) : deepG w (l.take (t + 1)) = max (deepG w (l.take t)) (2 * (l.getD t default).1) := by
  rw [List.take_add_one, deepG_app, List.getElem?_eq_getElem h, List.getD_eq_getElem?_getD, List.getElem?_eq_getElem h]; rfl
theorem wide_rng {b : Brd} (hc : 0 ≤ b.c ∧ b.c ≤ 1000000) : ∀ (l : List Ft) (w : Int), (∀ f ∈ l, okF f) → w ≤ wideG b w l ∧ wideG b w l ≤ w + 3000000 * l.length
  | [], w, _ => by
    have : wideG b w [] = w := rfl
    rw [this]; simp
  | f :: l, w, h => by
    obtain ⟨⟨f1, f2⟩, _⟩ := h f List.mem_cons_self
    have := wide_rng hc l (w + (b.c + 2 * f.1)) fun g hg => h g (List.mem_cons_of_mem _ hg)
    have e : wideG b w (f :: l) = wideG b (w + (b.c + 2 * f.1)) l := rfl
    rw [e, List.length_cons]; omega
theorem getD_drop' {l : List Ft} {a t : Nat} : (l.drop a).getD t default = l.getD (a + t) default := by
  rw [List.getD_eq_getElem?_getD, List.getElem?_drop, ← List.getD_eq_getElem?_getD]
def dpC : Ctr := { alias := false, of := fun l => match l with
  | [.agg [.int .i64 w, .int .i64 d, .int .i64 c, .int .i64 a, .int .i64 s, .vs _ _ n sz get], .vs _ _ n' sz' get', .vs _ _ n'' sz'' get''] => .ex Brd fun b => .ex (List Ft) fun l => .ex (List Int) fun ks => .pre (brdP b w d c a s n sz get ∧ lsP 2 encT n' sz' get' l ∧ lsP 1 enc1 n'' sz'' get'' ks ∧ okB b ∧ (∀ f ∈ l, okF f) ∧ l.length ≤ 200 ∧ ks.length ≤ 1000000) (.fin (.tup [.int .i64 (depF b l ks 0 true).1, .bool (depF b l ks 0 true).2]) [])
  | _ => noC }
def O3 : Env := { ct := fun _ => none, fn := fun _ => none, meth := fun _ _ => none }
theorem O3_ok : EnvOk Try.prog O3 := by
  refine ⟨fun f c h => ?_, fun f vf h => ?_, (fun _ _ _ h => by cases h), by kernel_rfl⟩
  · cases h
  · cases h

theorem ans_ibo {k : SV → List HO → Prop} {al : Bool} {hp : List HO} {b : Bool} {e : Int} (h : k (.tup [.int .i64 e, .bool b]) []) : answers al k (.tup [.int .i64 e, .bool b]) hp :=
  ans_le h (le_self (.tup [.int .i64 e, .bool b]) ⟨trivial, trivial, trivial⟩) (fun _ => by simp [freshS, freshL])
theorem rdp_ok : dpC.ok Try.prog 24 := by
  refine contract Try.func24 v24_is O3_ok 300 dpC fun args k h => ?_
  simp only [dpC] at h
  split at h
  · rename_i w d c a s t z n sz get t' z' n' sz' get' t'' z'' n'' sz'' get''
    obtain ⟨b, l, ks, ⟨hbp, ⟨rfl, rfl, hg⟩, ⟨rfl, rfl, hg'⟩, hb, hl, hlen, hkl⟩, h⟩ := h
    refine ⟨[.agg (encB t z b), .vs t' z' l.length 2 (fun k => encT (l.getD k default)), .vs t'' z'' ks.length 1 (fun k => enc1 (ks.getD k default))], ⟨brd_le hbp, by simpa [le] using hg, by simpa [le] using hg', trivial⟩, ?_⟩
    have h : k (.tup [.int .i64 (depF b l ks 0 true).1, .bool (depF b l ks 0 true).2]) [] := h
    dsimp only [v24, encB, encT, enc1, go_sem, Option.bind, Option.map, List.append_nil, Nat.beq, List.cons_append, List.nil_append, List.append_eq, List.map_cons, List.map_nil, ite_self, reduceIte]
    simp only [true_and, and_true, imp_self, implies_true, decide_eq_true_eq, decide_eq_false_iff_not, Nat.reduceAdd, Nat.reduceLeDiff, Bool.not_not, reduceCtorEq, false_imp_iff, Bool.not_eq_true', Bool.not_eq_false', Bool.false_eq_true, and_self, forall_const, ne_eq, not_false_eq_true, Nat.reduceEqDiff]
    have hb' := hb
    obtain ⟨⟨_, _⟩, ⟨_, _⟩, ⟨hc0, hc1⟩, _⟩ := hb'
    refine Loop.keep [1, 0, 0] (Nat × Nat × Int) (fun x => [(8, .int .i64 x.2.1), (9, .int .i64 x.2.2), (10, .int .i64 x.1)]) (fun _ => []) [] (fun x => x.1 ≤ ks.length ∧ x.2.1 ≤ l.length ∧ (0 ≤ x.2.2 ∧ x.2.2 ≤ 3000000 * x.2.1) ∧ depF b l ks 0 true = depF b (l.drop x.2.1) (ks.drop x.1) x.2.2 (decide (x.1 = 0))) (fun x => ks.length - x.1) ?_ ?_
    · refine ⟨(0, 0, 0), ⟨Nat.zero_le _, Nat.zero_le _, by simp, rfl⟩, ?_⟩
      dsimp only [go_sem, Option.bind, Option.map, List.append_nil, Nat.beq, List.cons_append, List.nil_append, List.append_eq, List.map_cons, List.map_nil, ite_self, reduceIte]
      simp only [leS_mk, leL_cons, leL_nil, le_junk, le_int, le_bool, le_nil, leLL_nil, leLL_cons, leH_cons, leH_nil, leH1_box, leH1_own, leH1_gone, le_vs, le_agg, le_tup, le_ptr, le_own, le_xp, le_fn, le_opt, le_val, le_elem, le_nil_own, le_nil_vs, leH_ghost, leL_chunk, leXL_id, bnd_int, bnd_bool, bnd_val, bnd_nil, bnd_junk, bnd_vs, bnd_xp, bnd_agg, bnd_tup, bnd_ptr, bnd_own, bnd_elem, bnd_fn, bnd_iface, bnd_opt, bndL_nil, bndL_cons, lenH_cons, lenH_nil, imp_self, implies_true, true_and, and_true]
      simp
    · rintro ⟨i, at', dep⟩ ⟨hi, hat, hdep, he⟩
      dsimp only at hi hat hdep he
      rw [he] at h
      dsimp only [enc1, encT, Int.toNat_natCast, go_sem, Option.bind, Option.map, List.append_nil, Nat.beq, List.cons_append, List.nil_append, List.append_eq, List.map_cons, List.map_nil, ite_self, reduceIte]
      simp only [true_and, and_true, imp_self, implies_true, decide_eq_true_eq, decide_eq_false_iff_not, Nat.reduceAdd, Nat.reduceLeDiff, Bool.not_not, reduceCtorEq, false_imp_iff, Bool.not_eq_true', Bool.not_eq_false', Bool.false_eq_true, and_self, forall_const, ne_eq, not_false_eq_true, Nat.reduceEqDiff]
      refine ⟨fun hlt => ?_, fun hge => ?_⟩
      · obtain ⟨K, hK⟩ : ∃ K, K = ks.getD i default := ⟨_, rfl⟩
        rw [drop_cons' (show i < ks.length by omega), ← hK, depF] at h
        rw [← hK, mid_w (x := (l.length : Int) - at') (by omega)]
        have hdl : (l.drop at').length = l.length - at' := List.length_drop
        refine ⟨⟨by omega, hlt⟩, fun _ => ⟨by omega, hlt⟩, fun hc => ?_, fun hc => ?_⟩
        · simp only [Bool.or_eq_true, decide_eq_true_eq] at hc
          rw [if_pos (by omega)] at h
          exact ans_ibo h
        · simp only [Bool.or_eq_false_iff, decide_eq_false_iff_not] at hc
          rw [if_neg (by omega)] at h
          obtain ⟨m, rfl⟩ := Int.eq_ofNat_of_zero_le (show 0 ≤ K by omega)
          rw [Int.toNat_natCast] at h
          have hlD : ∀ f ∈ l.drop at', okF f := fun f hf => hl f (List.mem_of_mem_drop hf)
          rw [mid_w (x := 0 - b.c) (by omega), Int.zero_sub]
          refine Loop.keep [1, 0, 0, 4, 0, 0] Nat (fun t => [(11, .int .i64 (wideG b (-b.c) ((l.drop at').take t))), (12, .int .i64 (deepG 0 ((l.drop at').take t))), (13, .int .i64 ((at' + t : Nat) : Int))]) (fun _ => []) [] (fun t => t ≤ m) (fun t => m - t) ?_ ?_
          · refine ⟨0, Nat.zero_le _, ?_⟩
            dsimp only [go_sem, Option.bind, Option.map, List.append_nil, Nat.beq, List.cons_append, List.nil_append, List.append_eq, List.map_cons, List.map_nil, ite_self, reduceIte]
            simp only [leS_mk, leL_cons, leL_nil, le_junk, le_int, le_bool, le_nil, leLL_nil, leLL_cons, leH_cons, leH_nil, leH1_box, leH1_own, leH1_gone, le_vs, le_agg, le_tup, le_ptr, le_own, le_xp, le_fn, le_opt, le_val, le_elem, le_nil_own, le_nil_vs, leH_ghost, leL_chunk, leXL_id, bnd_int, bnd_bool, bnd_val, bnd_nil, bnd_junk, bnd_vs, bnd_xp, bnd_agg, bnd_tup, bnd_ptr, bnd_own, bnd_elem, bnd_fn, bnd_iface, bnd_opt, bndL_nil, bndL_cons, lenH_cons, lenH_nil, imp_self, implies_true, true_and, and_true]
            simp [wideG, deepG]
          · rintro t ht
            dsimp only [enc1, encT, Int.toNat_natCast, go_sem, Option.bind, Option.map, List.append_nil, Nat.beq, List.cons_append, List.nil_append, List.append_eq, List.map_cons, List.map_nil, ite_self, reduceIte]
            simp only [true_and, and_true, imp_self, implies_true, decide_eq_true_eq, decide_eq_false_iff_not, Nat.reduceAdd, Nat.reduceLeDiff, Bool.not_not, reduceCtorEq, false_imp_iff, Bool.not_eq_true', Bool.not_eq_false', Bool.false_eq_true, and_self, forall_const, ne_eq, not_false_eq_true, Nat.reduceEqDiff]
            rw [← hK]
            have hw := wide_rng (b := b) ⟨hc0, hc1⟩ ((l.drop at').take t) (-b.c) fun f hf => hlD f (List.mem_of_mem_take hf)
            have htl : ((l.drop at').take t).length = t := by rw [List.length_take]; omega
            have hdp := deepG_rng ((l.drop at').take t) 0 (fun f hf => hlD f (List.mem_of_mem_take hf)) (by omega) (by omega)
            rw [htl] at hw
            have wA : IntKind.i64.wrap ((at' : Int) + (m : Int)) = ((at' + m : Nat) : Int) := by rw [mid_w (by omega)]; omega
            rw [wA]
            refine ⟨⟨by omega, hlt⟩, fun hlt2 => ?_, fun hge2 => ?_⟩
            · have hf := hl _ (getD_mem (show at' + t < l.length by omega))
              obtain ⟨⟨_, _⟩, _⟩ := hf
              have e1 := wide_step (b := b) (w := -b.c) (l := l.drop at') (t := t) (by omega)
              have e2 := deep_step (w := 0) (l := l.drop at') (t := t) (by omega)
              rw [getD_drop'] at e1 e2
              refine ⟨⟨by omega, by omega⟩, ⟨by omega, by omega⟩, t + 1, by omega, by omega, ?_⟩
              rw [e1, e2]
              generalize (l.getD (at' + t) default).1 = F at *
              generalize wideG b (-b.c) ((l.drop at').take t) = W at *
              generalize deepG 0 ((l.drop at').take t) = D at *
              have w1 : IntKind.i64.wrap (2 * F) = 2 * F := mid_w (by omega)
              have w2 : IntKind.i64.wrap (W + b.c) = W + b.c := mid_w (by omega)
              have w3 : IntKind.i64.wrap (W + b.c + 2 * F) = W + (b.c + 2 * F) := by rw [mid_w (by omega)]; omega
              have w4 : IntKind.i64.wrap (((at' + t : Nat) : Int) + 1) = ((at' + (t + 1) : Nat) : Int) := by rw [mid_w (by omega)]; omega
              simp only [w1, w2, w3, w4, leS_mk, leL_cons, leL_nil, le_junk, le_int, le_bool, le_nil, leLL_nil, leLL_cons, leH_cons, leH_nil, leH1_box, leH1_own, leH1_gone, le_vs, le_agg, le_tup, le_ptr, le_own, le_xp, le_fn, le_opt, le_val, le_elem, le_nil_own, le_nil_vs, leH_ghost, leL_chunk, leXL_id, bnd_int, bnd_bool, bnd_val, bnd_nil, bnd_junk, bnd_vs, bnd_xp, bnd_agg, bnd_tup, bnd_ptr, bnd_own, bnd_elem, bnd_fn, bnd_iface, bnd_opt, bndL_nil, bndL_cons, lenH_cons, lenH_nil, imp_self, implies_true, true_and, and_true] <;> simp
            · obtain rfl : t = m := by omega
              refine ⟨fun hw2 => ?_, fun hw2 => ?_⟩
              · rw [if_pos hw2] at h; exact ans_ibo h
              · have he' := he
                rw [drop_cons' (show i < ks.length by omega), ← hK, depF, if_neg (by omega), Int.toNat_natCast, if_neg hw2, List.drop_drop] at he'
                generalize deepG 0 ((l.drop at').take t) = D at *
                have w1 : IntKind.i64.wrap (dep + b.c) = dep + b.c := mid_w (by omega)
                have w2 : IntKind.i64.wrap (dep + D) = dep + D := mid_w (by omega)
                have w3 : IntKind.i64.wrap (dep + b.c + D) = dep + b.c + D := mid_w (by omega)
                have w4 : IntKind.i64.wrap ((i : Int) + 1) = ((i + 1 : Nat) : Int) := by rw [mid_w (by omega)]; omega
                refine ⟨fun h0 => ?_, fun h0 => ?_⟩
                · rw [decide_eq_false (show ¬ i = 0 by omega)] at he'
                  refine ⟨⟨by omega, hlt⟩, (i + 1, at' + t, dep + b.c + D), ⟨by dsimp only; omega, by dsimp only; omega, by dsimp only; omega, ?_⟩, by dsimp only; omega, ?_⟩
                  · rw [decide_eq_false (show ¬ i + 1 = 0 by omega)]; exact he'
                  · simp only [w1, w3, w4, wA, leS_mk, leL_cons, leL_nil, le_junk, le_int, le_bool, le_nil, leLL_nil, leLL_cons, leH_cons, leH_nil, leH1_box, leH1_own, leH1_gone, le_vs, le_agg, le_tup, le_ptr, le_own, le_xp, le_fn, le_opt, le_val, le_elem, le_nil_own, le_nil_vs, leH_ghost, leL_chunk, leXL_id, bnd_int, bnd_bool, bnd_val, bnd_nil, bnd_junk, bnd_vs, bnd_xp, bnd_agg, bnd_tup, bnd_ptr, bnd_own, bnd_elem, bnd_fn, bnd_iface, bnd_opt, bndL_nil, bndL_cons, lenH_cons, lenH_nil, imp_self, implies_true, true_and, and_true] <;> simp
                · rw [decide_eq_true (show i = 0 by omega)] at he'
                  refine ⟨⟨by omega, hlt⟩, (i + 1, at' + t, dep + D), ⟨by dsimp only; omega, by dsimp only; omega, by dsimp only; omega, ?_⟩, by dsimp only; omega, ?_⟩
                  · rw [decide_eq_false (show ¬ i + 1 = 0 by omega)]; exact he'
                  · simp only [w2, w4, wA, leS_mk, leL_cons, leL_nil, le_junk, le_int, le_bool, le_nil, leLL_nil, leLL_cons, leH_cons, leH_nil, leH1_box, leH1_own, leH1_gone, le_vs, le_agg, le_tup, le_ptr, le_own, le_xp, le_fn, le_opt, le_val, le_elem, le_nil_own, le_nil_vs, leH_ghost, leL_chunk, leXL_id, bnd_int, bnd_bool, bnd_val, bnd_nil, bnd_junk, bnd_vs, bnd_xp, bnd_agg, bnd_tup, bnd_ptr, bnd_own, bnd_elem, bnd_fn, bnd_iface, bnd_opt, bndL_nil, bndL_cons, lenH_cons, lenH_nil, imp_self, implies_true, true_and, and_true] <;> simp
      · obtain rfl : i = ks.length := by omega
        rw [List.drop_of_length_le (Nat.le_refl _), depF, List.length_drop] at h
        have e : decide ((at' : Int) = (l.length : Int)) = decide (l.length - at' = 0) := by rw [Bool.eq_iff_iff, decide_eq_true_iff, decide_eq_true_iff]; omega
        rw [e]
        exact ans_ibo h
  · exact h.1.elim
end Go.Proofs.Ytojaibhjfeojjaa

/- Layouts, walked: the reference's Placed. -/
/- Layouts, walked: the reference's Placed. -/
set_option linter.all false
namespace Go.Proofs.Ytojaibhjfeojjaa
open Go Go.Vx
set_option maxRecDepth 100000
set_option maxHeartbeats 4000000

def v25 : VF := { ntmps := 99, res := [.tmp 6], body :=
 (.seq (.region [u1 3 .box [.tm 0],
 u1 6 .mov [.cn .nil]])
 (.seq (.region [u1 7 .mov [.cn .nil]])
 (.seq (.region [u1 8 .mov [.cn (.int .i64 0)],
 u1 9 .mov [.cn (.int .i64 0)]])
 (.seq (.seq (.region [u1 10 .mov [.cn (.int .i64 0)]])
 (.block 0 (.loop (.seq (.seq (.region [u1 15 .mov [.tm 10],
 u1 16 .mov [.tm 2],
 u1 17 .len [.tm 16],
 u1 18 (.cmp .lss) [.tm 15, .tm 17]])
 (.cond (.tm 18) .skip
  (.exit 0)))
 (.seq (.block 1 (.seq (.region [u1 11 .mov [.cn (.int .i64 0)]])
 (.seq (.seq (.region [u1 21 .mov [.tm 8],
 u1 12 .mov [.tm 21]])
 (.block 2 (.loop (.seq (.seq (.region [u1 22 .mov [.tm 12],
 u1 23 .mov [.tm 8],
 u1 24 .mov [.tm 2],
 u1 25 .mov [.tm 10],
 u1 26 (.idxAddr 1) [.tm 24, .tm 25],
 u1 27 (.load false 1) [.tm 26],
 u1 28 (.ari .add) [.tm 23, .tm 27],
 u1 29 (.cmp .lss) [.tm 22, .tm 28]])
 (.cond (.tm 29) .skip
  (.exit 2)))
 (.seq (.block 3 (.region [u1 32 .mov [.tm 11],
 u1 33 .mov [.tm 1],
 u1 34 .mov [.tm 12],
 u1 35 (.idxAddr 2) [.tm 33, .tm 34],
 u1 36 (.fieldAddr 0) [.tm 35],
 u1 37 (.load false 1) [.tm 36],
 u1 38 .max [.tm 32, .tm 37],
 u1 11 .mov [.tm 38]]))
 (.region [u1 30 .mov [.tm 12],
 u1 31 (.ari .add) [.tm 30, .cn (.int .i64 1)],
 u1 12 .mov [.tm 31]]))))))
 (.seq (.region [u1 13 .mov [.cn (.int .i64 0)]])
 (.seq (.seq (.region [u1 39 .mov [.tm 8],
 u1 14 .mov [.tm 39]])
 (.block 4 (.loop (.seq (.seq (.region [u1 40 .mov [.tm 14],
 u1 41 .mov [.tm 8],
 u1 42 .mov [.tm 2],
 u1 43 .mov [.tm 10],
 u1 44 (.idxAddr 1) [.tm 42, .tm 43],
 u1 45 (.load false 1) [.tm 44],
 u1 46 (.ari .add) [.tm 41, .tm 45],
 u1 47 (.cmp .lss) [.tm 40, .tm 46]])
 (.cond (.tm 47) .skip
  (.exit 4)))
 (.seq (.block 5 (.seq (.draw [] [w1 50 .mov [.tm 7],
 w1 51 .mov [.tm 13],
 w1 52 .mov [.tm 1],
 w1 53 .mov [.tm 14],
 w1 54 (.idxAddr 2) [.tm 52, .tm 53],
 w1 55 (.fieldAddr 0) [.tm 54],
 w1 56 (.load false 1) [.tm 55],
 w1 57 (.ari .add) [.tm 51, .tm 56],
 w1 58 .mov [.tm 9],
 w1 59 .mov [.tm 11],
 w1 60 (.ari .add) [.tm 58, .tm 59],
 w1 61 .mov [.tm 1],
 w1 62 .mov [.tm 14],
 w1 63 (.idxAddr 2) [.tm 61, .tm 62],
 w1 64 (.fieldAddr 0) [.tm 63],
 w1 65 (.load false 1) [.tm 64],
 w1 66 .mov [.tm 1],
 w1 67 .mov [.tm 14],
 w1 68 (.idxAddr 2) [.tm 66, .tm 67],
 w1 69 (.fieldAddr 1) [.tm 68],
 w1 70 (.load false 1) [.tm 69],
 w1 71 (.build [(.int .i64 0), (.int .i64 0), (.int .i64 0), (.int .i64 0)] [(0, 1), (1, 1), (2, 1), (3, 1)]) [.tm 57, .tm 60, .tm 65, .tm 70],
 w1 72 (.buildSlice 4 1 [(.int .i64 0), (.int .i64 0), (.int .i64 0), (.int .i64 0)] [(0, 4)]) [.tm 71],
 w1 73 (.append 4 32 [(.int .i64 0), (.int .i64 0), (.int .i64 0), (.int .i64 0)]) [.tm 50, .tm 72],
 w1 7 .mov [.tm 73]])
 (.draw [] [w1 74 .mov [.tm 13],
 w1 75 .mov [.tm 1],
 w1 76 .mov [.tm 14],
 w1 77 (.idxAddr 2) [.tm 75, .tm 76],
 w1 78 (.fieldAddr 0) [.tm 77],
 w1 79 (.load false 1) [.tm 78],
 w1 80 (.ari .mul) [.cn (.int .i64 2), .tm 79],
 w1 81 (.ari .add) [.tm 74, .tm 80],
 w1 82 (.fieldAddr 2) [.tm 3],
 w1 83 (.load false 1) [.tm 82],
 w1 84 (.ari .add) [.tm 81, .tm 83],
 w1 13 .mov [.tm 84]])))
 (.region [u1 48 .mov [.tm 14],
 u1 49 (.ari .add) [.tm 48, .cn (.int .i64 1)],
 u1 14 .mov [.tm 49]]))))))
 (.seq (.region [u1 85 .mov [.tm 8],
 u1 86 .mov [.tm 2],
 u1 87 .mov [.tm 10],
 u1 88 (.idxAddr 1) [.tm 86, .tm 87],
 u1 89 (.load false 1) [.tm 88],
 u1 90 (.ari .add) [.tm 85, .tm 89],
 u1 8 .mov [.tm 90]])
 (.region [u1 91 .mov [.tm 9],
 u1 92 .mov [.tm 11],
 u1 93 (.ari .mul) [.cn (.int .i64 2), .tm 92],
 u1 94 (.ari .add) [.tm 91, .tm 93],
 u1 95 (.fieldAddr 2) [.tm 3],
 u1 96 (.load false 1) [.tm 95],
 u1 97 (.ari .add) [.tm 94, .tm 96],
 u1 9 .mov [.tm 97]])))))))
 (.region [u1 19 .mov [.tm 10],
 u1 20 (.ari .add) [.tm 19, .cn (.int .i64 1)],
 u1 10 .mov [.tm 20]]))))))
 (.seq (.region [u1 98 .mov [.tm 7],
 u1 6 .mov [.tm 98]])
 .ret))))) }
theorem v25_is : vfunc Try.prog Try.f25 = some v25 := by kernel_rfl


def plcC : Ctr := { alias := false, of := fun l => match l with
  | [.agg [.int .i64 w, .int .i64 d, .int .i64 c, .int .i64 a, .int .i64 s, .vs _ _ n sz get], .vs _ _ n' sz' get', .vs _ _ n'' sz'' get''] => .ex Brd fun b => .ex (List Ft) fun l => .ex (List Nat) fun ks => .pre (brdP b w d c a s n sz get ∧ lsP 2 encT n' sz' get' l ∧ lsP 1 enc1 n'' sz'' get'' (castL ks) ∧ okB b ∧ (∀ f ∈ l, okF f) ∧ l.length ≤ 200 ∧ dvP b l ks) (.fin (lsS (placeL b ks l 0)) [])
  | _ => noC }
def O4 : Env := { ct := fun _ => none, fn := fun _ => none, meth := fun _ _ => none }
theorem O4_ok : EnvOk Try.prog O4 := by
  refine ⟨fun f c h => ?_, fun f vf h => ?_, (fun _ _ _ h => by cases h), by kernel_rfl⟩
  · cases h
  · cases h

theorem cast_len : ∀ ks : List Nat, (castL ks).length = ks.length
  | [] => rfl
  | k :: ks => by rw [castL, List.length_cons, List.length_cons, cast_len ks]
theorem cast_get : ∀ (ks : List Nat) (i : Nat), i < ks.length → (castL ks).getD i default = ((ks.getD i default : Nat) : Int)
  | k :: ks, 0, _ => rfl
  | k :: ks, i + 1, h => by
    have := cast_get ks i (by rw [List.length_cons] at h; omega)
    simpa [castL] using this
theorem dv_len {b : Brd} : ∀ (ks : List Nat) (l : List Ft), dvP b l ks → ks.length ≤ l.length
  | [], l, _ => Nat.zero_le _
  | k :: ks, l, h => by
    obtain ⟨h1, h2, _, h4⟩ := h
    have := dv_len ks _ h4
    rw [List.length_drop] at this
    rw [List.length_cons]; omega
theorem most_step {l : List Ft} {t : Nat} (h : t < l.length) : mostF (l.take (t + 1)) = max (mostF (l.take t)) (l.getD t default).1 := by
  unfold mostF
  rw [foldl_take_succ h]
theorem rplc_ok : plcC.ok Try.prog 25 := by
  refine contract Try.func25 v25_is O4_ok 300 plcC fun args k h => ?_
  simp only [plcC] at h
  split at h
  · rename_i w d c a s t z n sz get t' z' n' sz' get' t'' z'' n'' sz'' get''
    obtain ⟨b, l, ks, ⟨hbp, ⟨rfl, rfl, hg⟩, ⟨rfl, rfl, hg'⟩, hb, hl, hlen, hdv⟩, h⟩ := h
    refine ⟨[.agg (encB t z b), .vs t' z' l.length 2 (fun k => encT (l.getD k default)), .vs t'' z'' (castL ks).length 1 (fun k => enc1 ((castL ks).getD k default))], ⟨brd_le hbp, by simpa [le] using hg, by simpa [le] using hg', trivial⟩, ?_⟩
    have hkl := dv_len ks l hdv
    rw [cast_len]
    obtain ⟨T, hT⟩ : ∃ T, T = placeL b ks l 0 := ⟨_, rfl⟩
    have h : k (lsS (placeL b ks l 0)) [] := h
    rw [← hT] at h
    dsimp only [v25, encB, encT, enc1, go_sem, Option.bind, Option.map, List.append_nil, Nat.beq, List.cons_append, List.nil_append, List.append_eq, List.map_cons, List.map_nil, ite_self, reduceIte]
    simp only [true_and, and_true, imp_self, implies_true, decide_eq_true_eq, decide_eq_false_iff_not, Nat.reduceAdd, Nat.reduceLeDiff, Bool.not_not, reduceCtorEq, false_imp_iff, Bool.not_eq_true', Bool.not_eq_false', Bool.false_eq_true, and_self, forall_const, ne_eq, not_false_eq_true, Nat.reduceEqDiff]
    have hb' := hb
    obtain ⟨⟨_, _⟩, ⟨_, _⟩, ⟨hc0, hc1⟩, _⟩ := hb'
    refine Loop.keep [1, 0, 0] (Nat × Nat × Int × List Std) (fun x => [(7, .own 1 0 x.2.2.2.length 4), (8, .int .i64 x.2.1), (9, .int .i64 x.2.2.1), (10, .int .i64 x.1)]) (fun x => [(1, .own (decide (x.2.2.2.length = 0)) 4 x.2.2.2.length (fun k => encS (x.2.2.2.getD k default)))]) [.gone] (fun x => x.1 ≤ ks.length ∧ x.2.1 ≤ l.length ∧ x.2.2.2.length = x.2.1 ∧ (0 ≤ x.2.2.1 ∧ x.2.2.1 ≤ 3000000 * x.2.1) ∧ dvP b (l.drop x.2.1) (ks.drop x.1) ∧ x.2.2.2 ++ placeL b (ks.drop x.1) (l.drop x.2.1) x.2.2.1 = T) (fun x => ks.length - x.1) ?_ ?_
    · refine ⟨(0, 0, 0, []), ⟨Nat.zero_le _, Nat.zero_le _, rfl, ⟨Int.le_refl _, by dsimp only; omega⟩, hdv, by rw [hT]; rfl⟩, ?_⟩
      dsimp only [encS, go_sem, Option.bind, Option.map, List.append_nil, Nat.beq, List.cons_append, List.nil_append, List.append_eq, List.map_cons, List.map_nil, ite_self, reduceIte]
      simp only [leH_ghost, leS_mk, leL_cons, leL_nil, le_junk, le_int, le_bool, le_nil, leLL_nil, leLL_cons, leH_cons, leH_nil, leH1_box, leH1_own, leH1_gone, le_vs, le_agg, le_tup, le_ptr, le_own, le_xp, le_fn, le_opt, le_val, le_elem, le_nil_own, le_nil_vs, leH_ghost, leL_chunk, leXL_id, bnd_int, bnd_bool, bnd_val, bnd_nil, bnd_junk, bnd_vs, bnd_xp, bnd_agg, bnd_tup, bnd_ptr, bnd_own, bnd_elem, bnd_fn, bnd_iface, bnd_opt, bndL_nil, bndL_cons, lenH_cons, lenH_nil, imp_self, implies_true, true_and, and_true] <;> simp
    · rintro ⟨i, A, y, o⟩ ⟨hi, hA, hol, ⟨hy1, hy2⟩, hd, hTe⟩
      dsimp only at hi hA hol hy1 hy2 hd hTe
      dsimp only [encS, encT, Int.toNat_natCast, go_sem, Option.bind, Option.map, List.append_nil, Nat.beq, List.cons_append, List.nil_append, List.append_eq, List.map_cons, List.map_nil, ite_self, reduceIte]
      simp only [true_and, and_true, imp_self, implies_true, decide_eq_true_eq, decide_eq_false_iff_not, Nat.reduceAdd, Nat.reduceLeDiff, Bool.not_not, reduceCtorEq, false_imp_iff, Bool.not_eq_true', Bool.not_eq_false', Bool.false_eq_true, and_self, forall_const, ne_eq, not_false_eq_true, Nat.reduceEqDiff]
      refine ⟨fun hlt => ?_, fun hge => ?_⟩
      · have hlt' : i < ks.length := by omega
        obtain ⟨K, hK⟩ : ∃ K, K = ks.getD i default := ⟨_, rfl⟩
        rw [drop_cons' hlt', ← hK] at hd hTe
        obtain ⟨hk1, hk2, hkw, hd⟩ := hd
        have hdl : (l.drop A).length = l.length - A := List.length_drop
        obtain ⟨R, hR⟩ : ∃ R, R = (l.drop A).take K := ⟨_, rfl⟩
        have hRl : R.length = K := by rw [hR, List.length_take]; omega
        have hRg : ∀ q, q < K → R.getD q default = l.getD (A + q) default := fun q hq => by
          rw [hR, List.getD_eq_getElem?_getD, List.getElem?_take, if_pos hq, ← List.getD_eq_getElem?_getD, getD_drop']
        have hRo : ∀ f ∈ R, okF f := fun f hf => hl f (List.mem_of_mem_drop (List.mem_of_mem_take (by rw [← hR]; exact hf)))
        have hcg : (castL ks).getD i default = (K : Int) := by rw [cast_get _ _ hlt', ← hK]
        refine Loop.keep [1, 0, 0, 3, 0, 0, 0] Nat (fun t => [(11, .int .i64 (mostF (R.take t))), (12, .int .i64 ((A + t : Nat) : Int))]) (fun _ => []) [] (fun t => t ≤ K) (fun t => K - t) ?_ ?_
        · refine ⟨0, Nat.zero_le _, ?_⟩
          dsimp only [encS, go_sem, Option.bind, Option.map, List.append_nil, Nat.beq, List.cons_append, List.nil_append, List.append_eq, List.map_cons, List.map_nil, ite_self, reduceIte]
          simp only [leS_mk, leL_cons, leL_nil, le_junk, le_int, le_bool, le_nil, leLL_nil, leLL_cons, leH_cons, leH_nil, leH1_box, leH1_own, leH1_gone, le_vs, le_agg, le_tup, le_ptr, le_own, le_xp, le_fn, le_opt, le_val, le_elem, le_nil_own, le_nil_vs, leH_ghost, leL_chunk, leXL_id, bnd_int, bnd_bool, bnd_val, bnd_nil, bnd_junk, bnd_vs, bnd_xp, bnd_agg, bnd_tup, bnd_ptr, bnd_own, bnd_elem, bnd_fn, bnd_iface, bnd_opt, bndL_nil, bndL_cons, lenH_cons, lenH_nil, imp_self, implies_true, true_and, and_true]
          simp [mostF]
        · rintro t ht
          dsimp only [encS, encT, Int.toNat_natCast, go_sem, Option.bind, Option.map, List.append_nil, Nat.beq, List.cons_append, List.nil_append, List.append_eq, List.map_cons, List.map_nil, ite_self, reduceIte]
          simp only [true_and, and_true, imp_self, implies_true, decide_eq_true_eq, decide_eq_false_iff_not, Nat.reduceAdd, Nat.reduceLeDiff, Bool.not_not, reduceCtorEq, false_imp_iff, Bool.not_eq_true', Bool.not_eq_false', Bool.false_eq_true, and_self, forall_const, ne_eq, not_false_eq_true, Nat.reduceEqDiff]
          have wA : IntKind.i64.wrap ((A : Int) + (K : Int)) = ((A + K : Nat) : Int) := by rw [mid_w (by omega)]; omega
          simp only [hcg, wA]
          refine ⟨⟨by omega, by omega⟩, fun hlt2 => ?_, fun hge2 => ?_⟩
          · have ht' : t < K := by omega
            have e1 := most_step (l := R) (t := t) (by omega)
            rw [hRg t ht'] at e1
            have w4 : IntKind.i64.wrap (((A + t : Nat) : Int) + 1) = ((A + (t + 1) : Nat) : Int) := by rw [mid_w (by omega)]; omega
            refine ⟨⟨by omega, by omega⟩, t + 1, by omega, by omega, ?_⟩
            rw [e1]
            simp only [w4, leS_mk, leL_cons, leL_nil, le_junk, le_int, le_bool, le_nil, leLL_nil, leLL_cons, leH_cons, leH_nil, leH1_box, leH1_own, leH1_gone, le_vs, le_agg, le_tup, le_ptr, le_own, le_xp, le_fn, le_opt, le_val, le_elem, le_nil_own, le_nil_vs, leH_ghost, leL_chunk, leXL_id, bnd_int, bnd_bool, bnd_val, bnd_nil, bnd_junk, bnd_vs, bnd_xp, bnd_agg, bnd_tup, bnd_ptr, bnd_own, bnd_elem, bnd_fn, bnd_iface, bnd_opt, bndL_nil, bndL_cons, lenH_cons, lenH_nil, imp_self, implies_true, true_and, and_true] <;> simp
          · obtain rfl : t = K := by omega
            rw [List.take_of_length_le (Nat.le_of_eq hRl)]
            have hmr := mostF_rng R 0 hRo (Int.le_refl _) (by decide)
            obtain ⟨M, hM⟩ : ∃ M, M = mostF R := ⟨_, rfl⟩
            have hMr : 0 ≤ M ∧ M ≤ 1000000 := by rw [hM]; exact hmr
            rw [← hM]
            refine Loop.keep [1, 0, 0, 4, 0, 0, 0] (Nat × Int × List Std) (fun x => [(7, .own 1 0 x.2.2.length 4), (13, .int .i64 x.2.1), (14, .int .i64 ((A + x.1 : Nat) : Int))]) (fun x => [(1, .own (decide (x.2.2.length = 0)) 4 x.2.2.length (fun k => encS (x.2.2.getD k default)))]) [] (fun x => x.1 ≤ t ∧ x.2.2.length = A + x.1 ∧ (0 ≤ x.2.1 ∧ x.2.1 ≤ 3000000 * x.1) ∧ x.2.2 ++ rowF b (y + M) (R.drop x.1) x.2.1 = o ++ rowF b (y + M) R 0) (fun x => t - x.1) ?_ ?_
            · refine ⟨(0, 0, o), ⟨Nat.zero_le _, by dsimp only; omega, ⟨Int.le_refl _, by dsimp only; omega⟩, rfl⟩, ?_⟩
              dsimp only [encS, go_sem, Option.bind, Option.map, List.append_nil, Nat.beq, List.cons_append, List.nil_append, List.append_eq, List.map_cons, List.map_nil, ite_self, reduceIte]
              simp only [leS_mk, leL_cons, leL_nil, le_junk, le_int, le_bool, le_nil, leLL_nil, leLL_cons, leH_cons, leH_nil, leH1_box, leH1_own, leH1_gone, le_vs, le_agg, le_tup, le_ptr, le_own, le_xp, le_fn, le_opt, le_val, le_elem, le_nil_own, le_nil_vs, leH_ghost, leL_chunk, leXL_id, bnd_int, bnd_bool, bnd_val, bnd_nil, bnd_junk, bnd_vs, bnd_xp, bnd_agg, bnd_tup, bnd_ptr, bnd_own, bnd_elem, bnd_fn, bnd_iface, bnd_opt, bndL_nil, bndL_cons, lenH_cons, lenH_nil, imp_self, implies_true, true_and, and_true] <;> simp
            · rintro ⟨q, x, o'⟩ ⟨hq, hql, ⟨hx1, hx2⟩, hoe⟩
              dsimp only at hq hql hx1 hx2 hoe
              dsimp only [encS, encT, Int.toNat_natCast, go_sem, Option.bind, Option.map, List.append_nil, Nat.beq, List.cons_append, List.nil_append, List.append_eq, List.map_cons, List.map_nil, ite_self, reduceIte]
              simp only [true_and, and_true, imp_self, implies_true, decide_eq_true_eq, decide_eq_false_iff_not, Nat.reduceAdd, Nat.reduceLeDiff, Bool.not_not, reduceCtorEq, false_imp_iff, Bool.not_eq_true', Bool.not_eq_false', Bool.false_eq_true, and_self, forall_const, ne_eq, not_false_eq_true, Nat.reduceEqDiff]
              simp only [hcg, wA]
              refine ⟨⟨by omega, by omega⟩, fun hlq => ?_, fun hgq => ?_⟩
              · have hlq' : q < t := by omega
                have hf : okF (l.getD (A + q) default) := hl _ (getD_mem (by omega))
                have hRq := hRg q hlq'
                rw [drop_cons' (show q < R.length by omega), hRq, rowF] at hoe
                generalize l.getD (A + q) default = f at *
                obtain ⟨⟨f1, f2⟩, _⟩ := hf
                have w1 : IntKind.i64.wrap (x + f.1) = x + f.1 := mid_w (by omega)
                have w2 : IntKind.i64.wrap (y + M) = y + M := mid_w (by omega)
                have w3 : IntKind.i64.wrap (IntKind.i64.wrap (x + IntKind.i64.wrap (2 * f.1)) + b.c) = x + (2 * f.1 + b.c) := by
                  rw [mid_w (x := 2 * f.1) (by omega), mid_w (x := x + 2 * f.1) (by omega), mid_w (by omega)]; omega
                have w4 : IntKind.i64.wrap (((A + q : Nat) : Int) + 1) = ((A + (q + 1) : Nat) : Int) := by rw [mid_w (by omega)]; omega
                simp only [w1, w2, w3, w4]
                refine ⟨⟨by omega, by omega⟩, ⟨by omega, by omega⟩, ⟨by omega, by omega⟩, by decide, ⟨by unfold capOk; omega, fun p hp => match p, hp with | 0, _ => ⟨rfl, trivial, trivial, trivial, trivial, trivial⟩⟩, ⟨by omega, by omega⟩, (q + 1, x + (2 * f.1 + b.c), o' ++ [⟨x + f.1, y + M, f.1, f.2⟩]), ⟨by dsimp only; omega, by dsimp only; rw [List.length_append, List.length_singleton]; omega, ⟨by dsimp only; omega, by dsimp only; omega⟩, by dsimp only; rw [List.append_assoc]; exact hoe⟩, by dsimp only; omega, ?_⟩
                simp only [List.length_append, List.length_singleton, getD_app, leS_mk, leL_cons, leL_nil, le_junk, le_int, le_bool, le_nil, leLL_nil, leLL_cons, leH_cons, leH_nil, leH1_box, leH1_own, leH1_gone, le_vs, le_agg, le_tup, le_ptr, le_own, le_xp, le_fn, le_opt, le_val, le_elem, le_nil_own, le_nil_vs, leH_ghost, leL_chunk, leXL_id, bnd_int, bnd_bool, bnd_val, bnd_nil, bnd_junk, bnd_vs, bnd_xp, bnd_agg, bnd_tup, bnd_ptr, bnd_own, bnd_elem, bnd_fn, bnd_iface, bnd_opt, bndL_nil, bndL_cons, lenH_cons, lenH_nil, imp_self, implies_true, true_and, and_true]
                refine ⟨by omega, by simp, fun p hp => ?_⟩
                rcases Nat.lt_or_ge p o'.length with h' | h'
                · simp only [if_pos h']; exact leL_self [.int _ _, .int _ _, .int _ _, .int _ _] ⟨trivial, trivial, trivial, trivial, trivial⟩
                · obtain rfl : p = o'.length := by omega
                  simp only [if_neg (Nat.lt_irrefl o'.length), if_pos, Nat.sub_self]
                  exact leL_self [.int _ _, .int _ _, .int _ _, .int _ _] ⟨trivial, trivial, trivial, trivial, trivial⟩
              · obtain rfl : q = t := by omega
                rw [List.drop_of_length_le (by omega), rowF, List.append_nil] at hoe
                have w5 : IntKind.i64.wrap (IntKind.i64.wrap (y + IntKind.i64.wrap (2 * M)) + b.c) = y + (2 * M + b.c) := by
                  rw [mid_w (x := 2 * M) (by omega), mid_w (x := y + 2 * M) (by omega), mid_w (by omega)]; omega
                have w4 : IntKind.i64.wrap ((i : Int) + 1) = ((i + 1 : Nat) : Int) := by rw [mid_w (by omega)]; omega
                simp only [w5, w4]
                rw [List.drop_drop] at hd
                rw [placeL, ← hR, ← hM, List.drop_drop, ← List.append_assoc, ← hoe] at hTe
                refine ⟨⟨by omega, hlt⟩, (i + 1, A + q, y + (2 * M + b.c), o'), ⟨by dsimp only; omega, by dsimp only; omega, by dsimp only; omega, ⟨by dsimp only; omega, by dsimp only; omega⟩, hd, hTe⟩, by dsimp only; omega, ?_⟩
                simp only [leS_mk, leL_cons, leL_nil, le_junk, le_int, le_bool, le_nil, leLL_nil, leLL_cons, leH_cons, leH_nil, leH1_box, leH1_own, leH1_gone, le_vs, le_agg, le_tup, le_ptr, le_own, le_xp, le_fn, le_opt, le_val, le_elem, le_nil_own, le_nil_vs, leH_ghost, leL_chunk, leXL_id, bnd_int, bnd_bool, bnd_val, bnd_nil, bnd_junk, bnd_vs, bnd_xp, bnd_agg, bnd_tup, bnd_ptr, bnd_own, bnd_elem, bnd_fn, bnd_iface, bnd_opt, bndL_nil, bndL_cons, lenH_cons, lenH_nil, imp_self, implies_true, true_and, and_true] <;> simp
      · obtain rfl : i = ks.length := by omega
        rw [List.drop_of_length_le (Nat.le_refl _), placeL, List.append_nil] at hTe
        subst hTe
        refine ans_le (show k _ [] from h) ?_ ?_
        · dsimp only [lsS, expo, encS, go_sem, Option.bind, Option.map, List.append_nil, Nat.beq, List.cons_append, List.nil_append, List.append_eq, List.map_cons, List.map_nil, ite_self, reduceIte]
          simp only [leS_mk, leL_cons, leL_nil, le_junk, le_int, le_bool, le_nil, leLL_nil, leLL_cons, leH_cons, leH_nil, leH1_box, leH1_own, leH1_gone, le_vs, le_agg, le_tup, le_ptr, le_own, le_xp, le_fn, le_opt, le_val, le_elem, le_nil_own, le_nil_vs, leH_ghost, leL_chunk, leXL_id, bnd_int, bnd_bool, bnd_val, bnd_nil, bnd_junk, bnd_vs, bnd_xp, bnd_agg, bnd_tup, bnd_ptr, bnd_own, bnd_elem, bnd_fn, bnd_iface, bnd_opt, bndL_nil, bndL_cons, lenH_cons, lenH_nil, imp_self, implies_true, true_and, and_true]
        · intro _; simp [freshS, freshL, encS, lsS]
  · exact h.1.elim
end Go.Proofs.Ytojaibhjfeojjaa

/- Layouts in plain Lean: all divisions, and the first best one. -/
/- Layouts in plain Lean: all divisions, and the first best one. -/
set_option linter.all false
namespace Go.Proofs.Ytojaibhjfeojjaa
open Go Go.Vx

def divsG : Nat → Nat → List (List Nat)
  | _, 0 => [[]]
  | 0, _ + 1 => []
  | f + 1, n + 1 => (List.range (n + 1)).flatMap fun k => (divsG f (n - k)).map fun x => (k + 1) :: x
def divsL (n : Nat) : List (List Nat) := divsG n n
theorem divsG_fuel : ∀ (f n : Nat), n ≤ f → divsG f n = divsL n := by
  intro f
  induction f using Nat.strongRecOn with
  | ind f ih =>
    intro n hn
    cases n with
    | zero => cases f <;> rfl
    | succ n =>
      obtain ⟨f, rfl⟩ : ∃ g, f = g + 1 := ⟨f - 1, by omega⟩
      unfold divsL
      rw [divsG, divsG]
      congr 1
      funext k
      rw [ih f (by omega) (n - k) (by omega)]
      rcases Nat.lt_or_ge n (f + 1) with h | h
      · rw [ih n h (n - k) (by omega)]
      · omega
theorem divsL_zero : divsL 0 = [[]] := rfl
theorem divsL_succ (n : Nat) : divsL (n + 1) = (List.range (n + 1)).flatMap fun k => (divsL (n - k)).map fun x => (k + 1) :: x := by
  conv => lhs; unfold divsL; rw [divsG]
  congr 1
  funext k
  rw [divsG_fuel n (n - k) (by omega)]
/-- After some first rows, and some divisions behind the next one. -/
def preD (n k i : Nat) : List (List Nat) := ((List.range k).flatMap fun k => (divsL (n - 1 - k)).map fun x => (k + 1) :: x) ++ ((divsL (n - 1 - k)).take i).map fun x => (k + 1) :: x
theorem preD_zero (n : Nat) : preD n 0 0 = [] := rfl
theorem preD_succ {n k i : Nat} (h : i < (divsL (n - 1 - k)).length) : preD n k (i + 1) = preD n k i ++ [(k + 1) :: (divsL (n - 1 - k)).getD i default] := by
  unfold preD
  rw [take_succ_eq h, List.map_append, List.append_assoc]; rfl
theorem preD_next {n k : Nat} : preD n k (divsL (n - 1 - k)).length = preD n (k + 1) 0 := by
  unfold preD
  rw [List.take_length, List.range_succ, List.flatMap_append]
  simp
theorem preD_all {n : Nat} (h : 0 < n) : preD n n 0 = divsL n := by
  obtain ⟨m, rfl⟩ : ∃ m, n = m + 1 := ⟨n - 1, by omega⟩
  rw [divsL_succ]
  unfold preD
  simp
theorem divs_pow : ∀ n, (divsL n).length ≤ 2 ^ n := by
  intro n
  induction n using Nat.strongRecOn with
  | ind n ih =>
    cases n with
    | zero => exact Nat.le_refl _
    | succ n =>
      have key : ∀ k, k ≤ n + 1 → ((List.range k).flatMap fun k => (divsL (n - k)).map fun x => (k + 1) :: x).length + 2 ^ (n + 1 - k) ≤ 2 ^ (n + 1) := by
        intro k
        induction k with
        | zero => intro _; simp
        | succ k ih2 =>
          intro hk
          have h1 := ih2 (by omega)
          have h2 := ih (n - k) (by omega)
          rw [List.range_succ, List.flatMap_append, List.length_append]
          have e1 : n + 1 - k = (n - k) + 1 := by omega
          have e2 : n + 1 - (k + 1) = n - k := by omega
          rw [e1, Nat.pow_succ] at h1
          rw [e2]
          simp only [List.flatMap_cons, List.flatMap_nil, List.append_nil, List.length_map]
          omega
      rw [divsL_succ]
      exact Nat.le_trans (Nat.le_add_right _ _) (key (n + 1) (Nat.le_refl _))
theorem preD_len {n k i : Nat} (hk : k ≤ n) (hi : i ≤ (divsL (n - 1 - k)).length) (h0 : 0 < n) : (preD n k i).length ≤ 2 ^ (n + 1) := by
  rcases Nat.lt_or_ge k n with h | h
  · have h1 : ∀ j, j ≤ n → (preD n j 0).length ≤ (divsL n).length := by
      intro j hj
      have : ∀ d, j + d ≤ n → (preD n j 0).length ≤ (preD n (j + d) 0).length := by
        intro d
        induction d with
        | zero => intro _; exact Nat.le_refl _
        | succ d ih =>
          intro hd
          have := ih (by omega)
          rw [show j + (d + 1) = (j + d) + 1 by omega, ← preD_next]
          unfold preD at *
          simp only [List.take_zero, List.map_nil, List.append_nil, List.length_append] at *
          omega
      have := this (n - j) (by omega)
      rw [show j + (n - j) = n by omega, preD_all h0] at this
      exact this
    have h2 := h1 (k + 1) (by omega)
    have h3 := divs_pow n
    have h4 : (preD n k i).length ≤ (preD n (k + 1) 0).length := by
      rw [← preD_next]
      unfold preD
      simp only [List.length_append, List.length_map, List.length_take]
      omega
    rw [Nat.pow_succ]
    omega
  · obtain rfl : k = n := by omega
    have h3 := divs_pow k
    have e : (preD k k i).length ≤ (divsL k).length + 1 := by
      rw [← preD_all h0]
      unfold preD
      rw [show k - 1 - k = 0 by omega, divsL_zero]
      simp only [List.length_append, List.length_map, List.length_take, List.length_cons, List.length_nil]
      omega
    have h5 : 1 ≤ 2 ^ k := Nat.one_le_two_pow
    rw [Nat.pow_succ]
    omega

/-! ### Which lists they are, in which order -/

theorem divs_mem : ∀ (x : List Nat) (n : Nat), (∀ k ∈ x, 1 ≤ k) → x.sum = n → x ∈ divsL n
  | [], n, _, h => by
    have h : 0 = n := h
    subst h
    rw [divsL_zero]; exact List.mem_cons_self
  | a :: x, n, hp, h => by
    have ha := hp a List.mem_cons_self
    rw [List.sum_cons] at h
    obtain ⟨m, rfl⟩ : ∃ m, n = m + 1 := ⟨n - 1, by omega⟩
    rw [divsL_succ]
    refine List.mem_flatMap.2 ⟨a - 1, List.mem_range.2 (by omega), List.mem_map.2 ⟨x, divs_mem x _ (fun k hk => hp k (List.mem_cons_of_mem _ hk)) (by omega), ?_⟩⟩
    rw [show a - 1 + 1 = a by omega]
theorem dv_mem {b : Brd} : ∀ (x : List Nat) (l : List Ft), dvP b l x → (∀ k ∈ x, 1 ≤ k) ∧ x.sum = l.length
  | [], l, h => by have h : l = [] := h; subst h; exact ⟨(fun k hk => by cases hk), rfl⟩
  | a :: x, l, h => by
    obtain ⟨h1, h2, _, h4⟩ := h
    obtain ⟨i1, i2⟩ := dv_mem x _ h4
    refine ⟨fun k hk => ?_, ?_⟩
    · rcases List.mem_cons.1 hk with rfl | hk
      · exact h1
      · exact i1 k hk
    · rw [List.sum_cons, i2, List.length_drop]; omega
theorem divs_len : ∀ (n : Nat) (x : List Nat), x ∈ divsL n → x.length ≤ n := by
  intro n
  induction n using Nat.strongRecOn with
  | ind n ih =>
    intro x hx
    cases n with
    | zero => rw [divsL_zero] at hx; rw [List.mem_singleton.1 hx]; exact Nat.le_refl _
    | succ n =>
      rw [divsL_succ] at hx
      obtain ⟨k, hk, hx⟩ := List.mem_flatMap.1 hx
      obtain ⟨y, hy, rfl⟩ := List.mem_map.1 hx
      have := ih (n - k) (by omega) y hy
      rw [List.length_cons]; omega
theorem lex_refl : ∀ x, lexLe x x
  | [] => trivial
  | _ :: x => .inr ⟨rfl, lex_refl x⟩
theorem lex_anti : ∀ x y, lexLe x y → lexLe y x → x = y
  | [], [], _, _ => rfl
  | [], _ :: _, _, h => h.elim
  | _ :: _, [], h, _ => h.elim
  | a :: x, c :: y, h1, h2 => by
    rcases h1 with h1 | ⟨rfl, h1⟩
    · rcases h2 with h2 | ⟨rfl, _⟩ <;> omega
    · rcases h2 with h2 | ⟨_, h2⟩
      · omega
      · rw [lex_anti x y h1 h2]
theorem divs_sorted : ∀ n, (divsL n).Pairwise lexLe := by
  intro n
  induction n using Nat.strongRecOn with
  | ind n ih =>
    cases n with
    | zero => rw [divsL_zero]; exact List.pairwise_singleton _ _
    | succ n =>
      rw [divsL_succ, List.pairwise_flatMap]
      refine ⟨fun k hk => ?_, ?_⟩
      · rw [List.pairwise_map]
        exact (ih (n - k) (by omega)).imp fun h => .inr ⟨rfl, h⟩
      · refine List.pairwise_lt_range.imp fun {a c} hac x hx y hy => ?_
        obtain ⟨x', _, rfl⟩ := List.mem_map.1 hx
        obtain ⟨y', _, rfl⟩ := List.mem_map.1 hy
        exact .inl (by omega)

/-! ### The first best one -/

theorem cast_inj : ∀ x y : List Nat, castL x = castL y → x = y
  | [], [], _ => rfl
  | [], _ :: _, h => by cases h
  | _ :: _, [], h => by cases h
  | a :: x, c :: y, h => by
    simp only [castL, List.cons.injEq] at h
    rw [cast_inj x y h.2, show a = c by omega]
structure Fnd where
  best : List Nat
  depth : Int
  is : Bool
def goodX (b : Brd) (l : List Ft) (x : List Nat) : Prop := (depF b l (castL x) 0 true).2 = true ∧ (depF b l (castL x) 0 true).1 ≤ b.d
instance (b : Brd) (l : List Ft) (x : List Nat) : Decidable (goodX b l x) := by unfold goodX; infer_instance
def dX (b : Brd) (l : List Ft) (x : List Nat) : Int := (depF b l (castL x) 0 true).1
def stepX (b : Brd) (l : List Ft) (s : Fnd) (x : List Nat) : Fnd :=
  if goodX b l x ∧ (s.is = false ∨ dX b l x < s.depth ∨ dX b l x = s.depth ∧ x.length < s.best.length) then ⟨x, dX b l x, true⟩ else s
def foldX (b : Brd) (l : List Ft) (xs : List (List Nat)) : Fnd := xs.foldl (stepX b l) ⟨[], 0, false⟩
structure InvX (b : Brd) (l : List Ft) (xs : List (List Nat)) (s : Fnd) : Prop where
  no : s.is = false → s.best = [] ∧ ∀ x ∈ xs, ¬ goodX b l x
  yes : s.is = true → s.best ∈ xs ∧ goodX b l s.best ∧ s.depth = dX b l s.best ∧ ∀ x ∈ xs, goodX b l x → s.depth < dX b l x ∨ s.depth = dX b l x ∧ (s.best.length < x.length ∨ s.best.length = x.length ∧ lexLe s.best x)
theorem inv_stepX {b : Brd} {l : List Ft} {xs : List (List Nat)} {s : Fnd} {y : List Nat} (h : InvX b l xs s) (hy : ∀ x ∈ xs, lexLe x y) : InvX b l (xs ++ [y]) (stepX b l s y) := by
  unfold stepX
  split
  · rename_i hc
    refine ⟨fun hh => (by cases hh), fun _ => ⟨by simp, hc.1, rfl, fun x hx hg => ?_⟩⟩
    rcases List.mem_append.1 hx with hx | hx
    · rcases hc.2 with h0 | h0
      · exact absurd hg ((h.no h0).2 x hx)
      · cases his : s.is with
        | false => exact absurd hg ((h.no his).2 x hx)
        | true =>
          have := (h.yes his).2.2.2 x hx hg
          dsimp only
          omega
    · obtain rfl : x = y := by simpa using hx
      exact .inr ⟨rfl, .inr ⟨rfl, lex_refl _⟩⟩
  · rename_i hc
    refine ⟨fun hh => ⟨(h.no hh).1, fun x hx hg => ?_⟩, fun hh => ?_⟩
    · rcases List.mem_append.1 hx with hx | hx
      · exact (h.no hh).2 x hx hg
      · obtain rfl : x = y := by simpa using hx
        exact hc ⟨hg, .inl hh⟩
    · obtain ⟨h1, h2, h3, h4⟩ := h.yes hh
      refine ⟨List.mem_append_left _ h1, h2, h3, fun x hx hg => ?_⟩
      rcases List.mem_append.1 hx with hx | hx
      · exact h4 x hx hg
      · obtain rfl : x = y := by simpa using hx
        have hn : ¬ (dX b l x < s.depth ∨ dX b l x = s.depth ∧ x.length < s.best.length) := fun h => hc ⟨hg, .inr h⟩
        have hl := hy _ h1
        rcases Int.lt_or_le s.depth (dX b l x) with h5 | h5
        · exact .inl h5
        · refine .inr ⟨by omega, ?_⟩
          rcases Nat.lt_or_ge s.best.length x.length with h6 | h6
          · exact .inl h6
          · exact .inr ⟨by omega, hl⟩
theorem inv_foldX {b : Brd} {l : List Ft} : ∀ (ys xs : List (List Nat)) (s : Fnd), InvX b l xs s → (xs ++ ys).Pairwise lexLe → InvX b l (xs ++ ys) (ys.foldl (stepX b l) s)
  | [], xs, s, h, _ => by simpa using h
  | y :: ys, xs, s, h, hp => by
    have h1 : InvX b l (xs ++ [y]) (stepX b l s y) := inv_stepX h fun x hx => (List.pairwise_append.1 hp).2.2 x hx y List.mem_cons_self
    have := inv_foldX ys (xs ++ [y]) _ h1 (by simpa using hp)
    simpa using this
/-- What the search over all divisions finds is what the plans say. -/
theorem foldX_is {b : Brd} (hc : 0 ≤ b.c ∧ b.c ≤ 1000000) {l : List Ft} (h2 : l.length ≤ 200) (hl : ∀ f ∈ l, okF f) :
    (((headP b l).is = false ∨ b.d < (headP b l).depth) ∧ (foldX b l (divsL l.length)).is = false) ∨
    ((headP b l).is = true ∧ (headP b l).depth ≤ b.d ∧ (foldX b l (divsL l.length)).is = true ∧ (foldX b l (divsL l.length)).best = divL b l) := by
  have hinv : InvX b l ([] ++ divsL l.length) (foldX b l (divsL l.length)) := inv_foldX _ [] ⟨[], 0, false⟩ ⟨fun _ => ⟨rfl, fun x hx => by cases hx⟩, fun h => by cases h⟩ (by simpa using divs_sorted l.length)
  rw [List.nil_append] at hinv
  generalize foldX b l (divsL l.length) = s at hinv ⊢
  have hgood : ∀ x, goodX b l x → ∃ _ : dvP b l x, dX b l x = dvD b l x ∧ dvD b l x ≤ b.d := by
    intro x hx
    obtain ⟨ks, e, hd, hv⟩ := depF_of (castL x) l 0 true hx.1
    have e2 : x = ks := cast_inj _ _ e
    subst e2
    have h3 := hx.2
    unfold dX
    refine ⟨hd, ?_, ?_⟩
    · rw [hv]; simp
    · rw [hv] at h3; simpa using h3
  have hdv : ∀ x, dvP b l x → dvD b l x ≤ b.d → goodX b l x ∧ dX b l x = dvD b l x := by
    intro x hx hd
    have e := depF_is x l 0 true hx
    unfold goodX dX
    rw [e]
    refine ⟨⟨rfl, ?_⟩, ?_⟩ <;> simpa using hd
  by_cases hcase : (headP b l).is = true ∧ (headP b l).depth ≤ b.d
  · obtain ⟨hi, hd⟩ := hcase
    obtain ⟨d1, d2, d3⟩ := div_is hc l.length l rfl h2 hl hi
    obtain ⟨g1, g2⟩ := hdv _ d1 (by omega)
    obtain ⟨m1, m2⟩ := dv_mem _ _ d1
    have hmem := divs_mem (divL b l) l.length m1 m2
    cases his : s.is with
    | false => exact absurd g1 ((hinv.no his).2 _ hmem)
    | true =>
      refine .inr ⟨hi, hd, rfl, ?_⟩
      obtain ⟨k1, k2, k3, k4⟩ := hinv.yes his
      have q := k4 _ hmem g1
      obtain ⟨r1, r2, r3⟩ := hgood _ k2
      obtain ⟨_, t⟩ := div_best hc s.best l h2 hl r1
      rcases t with t | ⟨t1, t | ⟨t2, t3⟩⟩
      · omega
      · omega
      · rcases q with q | ⟨q1, q | ⟨q2, q3⟩⟩
        · omega
        · omega
        · exact lex_anti _ _ q3 t3
  · refine .inl ⟨?_, ?_⟩
    · cases hi : (headP b l).is with
      | false => exact .inl rfl
      | true => exact .inr (by have : ¬ (headP b l).depth ≤ b.d := fun h => hcase ⟨hi, h⟩; omega)
    · cases his : s.is with
      | false => rfl
      | true =>
        exfalso
        obtain ⟨k1, k2, k3, k4⟩ := hinv.yes his
        obtain ⟨r1, r2, r3⟩ := hgood _ k2
        obtain ⟨t0, t⟩ := div_best hc s.best l h2 hl r1
        exact hcase ⟨t0, by omega⟩
end Go.Proofs.Ytojaibhjfeojjaa

/- Layouts, walked: the reference's divisions. -/
/- Layouts, walked: the reference's divisions. -/
set_option linter.all false
namespace Go.Proofs.Ytojaibhjfeojjaa
open Go Go.Vx
set_option maxRecDepth 100000
set_option maxHeartbeats 4000000

def v41 : VF := { ntmps := 36, res := [.tmp 2], body :=
 (.seq (.region [u1 2 .mov [.cn .nil]])
 (.seq (.seq (.region [u1 7 .mov [.tm 0],
 u1 8 (.cmp .eql) [.tm 7, .cn (.int .i64 0)]])
 (.cond (.tm 8) (.seq (.region [u1 9 (.buildSlice 1 1 [.nil] [(0, 1)]) [.cn .nil],
 u1 2 .mov [.tm 9]])
 .ret)
  .skip))
 (.seq (.region [u1 3 .mov [.cn .nil]])
 (.seq (.seq (.region [u1 4 .mov [.cn (.int .i64 1)]])
 (.block 0 (.loop (.seq (.seq (.region [u1 10 .mov [.tm 4],
 u1 11 .mov [.tm 0],
 u1 12 (.cmp .leq) [.tm 10, .tm 11]])
 (.cond (.tm 12) .skip
  (.exit 0)))
 (.seq (.block 1 (.seq (.region [u1 15 .mov [.tm 0],
 u1 16 .mov [.tm 4],
 u1 17 (.ari .sub) [.tm 15, .tm 16],
 u1 18 (.call 41) [.tm 17],
 u1 5 .mov [.tm 18]])
 (.seq (.region [u1 6 .mov [.cn (.int .i64 0)]])
 (.block 2 (.loop (.seq (.seq (.region [u1 19 .mov [.tm 6],
 u1 20 .mov [.tm 5],
 u1 21 .len [.tm 20],
 u1 22 (.cmp .lss) [.tm 19, .tm 21]])
 (.cond (.tm 22) .skip
  (.exit 2)))
 (.seq (.block 3 (.region [u1 25 .mov [.tm 3],
 u1 26 .mov [.tm 4],
 u1 27 (.buildSlice 1 1 [(.int .i64 0)] [(0, 1)]) [.tm 26],
 u1 28 .mov [.tm 5],
 u1 29 .mov [.tm 6],
 u1 30 (.idxAddr 1) [.tm 28, .tm 29],
 u1 31 (.load false 1) [.tm 30],
 u1 32 (.append 1 8 [(.int .i64 0)]) [.tm 27, .tm 31],
 u1 33 (.buildSlice 1 1 [.nil] [(0, 1)]) [.tm 32],
 u1 34 (.append 1 24 [.nil]) [.tm 25, .tm 33],
 u1 3 .mov [.tm 34]]))
 (.region [u1 23 .mov [.tm 6],
 u1 24 (.ari .add) [.tm 23, .cn (.int .i64 1)],
 u1 6 .mov [.tm 24]]))))))))
 (.region [u1 13 .mov [.tm 4],
 u1 14 (.ari .add) [.tm 13, .cn (.int .i64 1)],
 u1 4 .mov [.tm 14]]))))))
 (.seq (.region [u1 35 .mov [.tm 3],
 u1 2 .mov [.tm 35]])
 .ret))))) }
theorem v41_is : vfunc Try.prog Try.f41 = some v41 := by kernel_rfl


def vsN (L : List (List Nat)) : SV := .vs true false L.length 1 (fun k => [lsR (L.getD k default)])
def dvC (N : Nat) : Ctr := { alias := false, of := fun l => match l with
  | [.int .i64 n] => .ex Nat fun m => .pre (n = (m : Int) ∧ m < N) (.fin (vsN (divsL m)) [])
  | _ => noC }
def dvE (N : Nat) : Env := { ct := fun n => match n with | 41 => some (dvC N) | _ => none, fn := fun _ => none, meth := fun _ _ => none }
theorem dvE_ct (N : Nat) : (dvE N).ct 41 = some (dvC N) := rfl
theorem dvE_ok {N : Nat} (hN : (dvC N).ok Try.prog 41) : EnvOk Try.prog (dvE N) := by
  refine ⟨fun f c h => ?_, fun f vf h => ?_, (fun _ _ _ h => by cases h), by kernel_rfl⟩
  · simp only [dvE] at h
    split at h
    · cases h; exact ⟨hN, Try.f41, Try.func41, by kernel_rfl, by kernel_rfl⟩
    · cases h
  · cases h
theorem ans_vsN {k : SV → List HO → Prop} {al : Bool} {hp : List HO} {L : List (List Nat)} {j : Nat} {g : Nat → List SV} (h : k (vsN L) []) (hg : getH hp j = .own false 1 L.length g) (he : ∀ i, i < L.length → leXL (viewL true hp (viewL true hp junks) (g i)) [lsR (L.getD i default)]) : answers al k (.own j 0 L.length 1) hp := by
  refine ans_le (show k (vsN L) [] from h) ?_ (fun _ => by simp [vsN, lsR, encI, freshS, freshL])
  simp only [vsN, expo, view, hg]
  exact ⟨fun h => h, rfl, rfl, rfl, fun i hi => he i hi⟩
theorem getD_appN {L M : List (List Nat)} {k : Nat} : (L ++ M).getD k default = if k < L.length then L.getD k default else M.getD (k - L.length) default := by
  simp only [List.getD_eq_getElem?_getD, List.getElem?_append]
  split <;> rfl
theorem lsR_get {L : List (List Nat)} {hp : List HO} {i : Nat} : leXL (viewL true hp (viewL true hp junks) [lsR (L.getD i default)]) [lsR (L.getD i default)] := by
  simp [lsR, encI, viewL, view, leXL, leX, andT]
theorem divs_pos {n : Nat} (h : 0 < n) : 0 < (divsL n).length := by
  have := divs_mem [n] n (fun k hk => by have : k = n := by simpa using hk
                                         omega) (by simp)
  exact List.length_pos_of_mem this
theorem div_step {N : Nat} (hN : (dvC N).ok Try.prog 41) (h10 : N ≤ 10) : (dvC (N + 1)).ok Try.prog 41 := by
  refine contract Try.func41 v41_is (dvE_ok hN) 300 (dvC (N + 1)) fun args k h => ?_
  simp only [dvC] at h
  split at h
  · rename_i n
    obtain ⟨m, ⟨rfl, hm⟩, h⟩ := h
    refine ⟨[.int .i64 m], ⟨⟨rfl, rfl⟩, trivial⟩, ?_⟩
    have h : k (vsN (divsL m)) [] := h
    dsimp only [v41, go_sem, Option.bind, Option.map, List.append_nil, Nat.beq, List.cons_append, List.nil_append, List.append_eq, List.map_cons, List.map_nil, ite_self, reduceIte]
    simp only [true_and, and_true, imp_self, implies_true, decide_eq_true_eq, decide_eq_false_iff_not, Nat.reduceAdd, Nat.reduceLeDiff, Bool.not_not, reduceCtorEq, false_imp_iff, Bool.not_eq_true', Bool.not_eq_false', Bool.false_eq_true, and_self, forall_const, ne_eq, not_false_eq_true, Nat.reduceEqDiff]
    refine ⟨fun h0 => ?_, fun h0 => ?_⟩
    · obtain rfl : m = 0 := by omega
      refine ⟨by decide, ans_vsN (L := [[]]) h rfl fun i hi => ?_⟩
      obtain rfl : i = 0 := by simpa using hi
      simp [chunk, takeL, dropL, viewL, view, leXL, leX, lsR]
    · have hm0 : 0 < m := by omega
      refine Loop.keepF [0] Nat (fun k => [(3, .own 0 0 (preD m k 0).length 1), (4, .int .i64 ((k : Int) + 1))]) (fun k => [(0, .own (decide ((preD m k 0).length = 0)) 1 (preD m k 0).length (fun j => [lsR ((preD m k 0).getD j default)]))]) [.gone] (fun k => k ≤ m) (fun k => m - k) ?_ ?_
      · refine ⟨0, Nat.zero_le _, [], trivial, ?_⟩
        dsimp only [preD_zero, List.length_nil, go_sem, Option.bind, Option.map, List.append_nil, Nat.beq, List.cons_append, List.nil_append, List.append_eq, List.map_cons, List.map_nil, ite_self, reduceIte]
        simp only [leH_ghost, leS_mk, leL_cons, leL_nil, le_junk, le_int, le_bool, le_nil, leLL_nil, leLL_cons, leH_cons, leH_nil, leH1_box, leH1_own, leH1_gone, le_vs, le_agg, le_tup, le_ptr, le_own, le_xp, le_fn, le_opt, le_val, le_elem, le_nil_own, le_nil_vs, leH_ghost, leL_chunk, leXL_id, bnd_int, bnd_bool, bnd_val, bnd_nil, bnd_junk, bnd_vs, bnd_xp, bnd_agg, bnd_tup, bnd_ptr, bnd_own, bnd_elem, bnd_fn, bnd_iface, bnd_opt, bndL_nil, bndL_cons, lenH_cons, lenH_nil, imp_self, implies_true, true_and, and_true] <;> simp
      · rintro q hq
        dsimp only [dvE_ct, dvC, vsN, lsR, Int.toNat_natCast, go_sem, Option.bind, Option.map, List.append_nil, Nat.beq, List.cons_append, List.nil_append, List.append_eq, List.map_cons, List.map_nil, ite_self, reduceIte]
        simp only [true_and, and_true, imp_self, implies_true, decide_eq_true_eq, decide_eq_false_iff_not, Nat.reduceAdd, Nat.reduceLeDiff, Bool.not_not, reduceCtorEq, false_imp_iff, Bool.not_eq_true', Bool.not_eq_false', Bool.false_eq_true, and_self, forall_const, ne_eq, not_false_eq_true, Nat.reduceEqDiff]
        refine ⟨fun hle => ?_, fun hgt => ?_⟩
        · have hq' : q < m := by omega
          refine ⟨m - 1 - q, ⟨by rw [w6_raw (by omega) (by omega)]; omega, by omega⟩, ?_⟩
          have hdl : (divsL (m - 1 - q)).length ≤ 1024 := by
            have := divs_pow (m - 1 - q)
            have h2 : 2 ^ (m - 1 - q) ≤ 2 ^ 10 := Nat.pow_le_pow_right (by omega) (by omega)
            omega
          refine Loop.keepF [0, 3, 0] Nat (fun i => [(3, .own 0 0 (preD m q i).length 1), (6, .int .i64 i)]) (fun i => [(0, .own (decide ((preD m q i).length = 0)) 1 (preD m q i).length (fun j => [lsR ((preD m q i).getD j default)]))]) [] (fun i => i ≤ (divsL (m - 1 - q)).length) (fun i => (divsL (m - 1 - q)).length - i) ?_ ?_
          · refine ⟨0, Nat.zero_le _, [], trivial, ?_⟩
            dsimp only [lsR, go_sem, Option.bind, Option.map, List.append_nil, Nat.beq, List.cons_append, List.nil_append, List.append_eq, List.map_cons, List.map_nil, ite_self, reduceIte]
            simp only [leS_mk, leL_cons, leL_nil, le_junk, le_int, le_bool, le_nil, leLL_nil, leLL_cons, leH_cons, leH_nil, leH1_box, leH1_own, leH1_gone, le_vs, le_agg, le_tup, le_ptr, le_own, le_xp, le_fn, le_opt, le_val, le_elem, le_nil_own, le_nil_vs, leH_ghost, leL_chunk, leXL_id, bnd_int, bnd_bool, bnd_val, bnd_nil, bnd_junk, bnd_vs, bnd_xp, bnd_agg, bnd_tup, bnd_ptr, bnd_own, bnd_elem, bnd_fn, bnd_iface, bnd_opt, bndL_nil, bndL_cons, lenH_cons, lenH_nil, imp_self, implies_true, true_and, and_true] <;> simp
          · rintro i hi
            dsimp only [lsR, Int.toNat_natCast, go_sem, Option.bind, Option.map, List.append_nil, Nat.beq, List.cons_append, List.nil_append, List.append_eq, List.map_cons, List.map_nil, ite_self, reduceIte]
            simp only [true_and, and_true, imp_self, implies_true, decide_eq_true_eq, decide_eq_false_iff_not, Nat.reduceAdd, Nat.reduceLeDiff, Bool.not_not, reduceCtorEq, false_imp_iff, Bool.not_eq_true', Bool.not_eq_false', Bool.false_eq_true, and_self, forall_const, ne_eq, not_false_eq_true, Nat.reduceEqDiff]
            refine ⟨fun hlt => ?_, fun hge => ?_⟩
            · have hi' : i < (divsL (m - 1 - q)).length := by omega
              have hpl : (preD m q i).length ≤ 4096 := by
                have := preD_len (n := m) (k := q) (i := i) (by omega) hi hm0
                have h2 : 2 ^ (m + 1) ≤ 2 ^ 12 := Nat.pow_le_pow_right (by omega) (by omega)
                omega
              have hsx := preD_succ hi'
              have hxl := divs_len (m - 1 - q) _ (getD_mem hi')
              generalize (divsL (m - 1 - q)).getD i default = x at *
              refine ⟨by decide, ⟨by omega, hlt⟩, ⟨by unfold capOk; omega, fun k hk => ⟨rfl, trivial, trivial⟩⟩, by decide, ⟨by unfold capOk; omega, fun k hk => ?_⟩, i + 1, by omega, by omega, [1, 2], ?_, ?_⟩
              · obtain rfl : k = 0 := by omega
                exact ⟨rfl, trivial, trivial⟩
              · dsimp only [go_sem, Option.bind, Option.map, List.append_nil, Nat.beq, List.cons_append, List.nil_append, List.append_eq, List.map_cons, List.map_nil, ite_self, reduceIte]
                refine ⟨fun k hk => ?_, fun k hk => ?_, trivial⟩
                · rcases Nat.lt_or_ge k 1 with h' | h'
                  · obtain rfl : k = 0 := by omega
                    rfl
                  · simp only [if_neg (show ¬ k < 1 by omega)]
                    rfl
                · obtain rfl : k = 0 := by omega
                  rfl
              · dsimp only [go_sem, Option.bind, Option.map, List.append_nil, Nat.beq, List.cons_append, List.nil_append, List.append_eq, List.map_cons, List.map_nil, ite_self, reduceIte]
                simp only [w_succ (i := i) (n := (divsL (m - 1 - q)).length) (by omega) (by omega), hsx, List.length_append, List.length_cons, List.length_nil, Nat.zero_add, leS_mk, leL_cons, leL_nil, le_junk, le_int, le_bool, le_nil, leLL_nil, leLL_cons, leH_cons, leH_nil, leH1_box, leH1_own, leH1_gone, le_vs, le_agg, le_tup, le_ptr, le_own, le_xp, le_fn, le_opt, le_val, le_elem, le_nil_own, le_nil_vs, leH_ghost, leL_chunk, leXL_id, bnd_int, bnd_bool, bnd_val, bnd_nil, bnd_junk, bnd_vs, bnd_xp, bnd_agg, bnd_tup, bnd_ptr, bnd_own, bnd_elem, bnd_fn, bnd_iface, bnd_opt, bndL_nil, bndL_cons, lenH_cons, lenH_nil, imp_self, implies_true, true_and, and_true]
                refine ⟨by omega, by simp, fun k hk => ?_⟩
                rw [getD_appN]
                rcases Nat.lt_or_ge k (preD m q i).length with h' | h'
                · rw [if_pos h', if_pos h']
                  exact ⟨le_self _ trivial, trivial⟩
                · obtain rfl : k = (preD m q i).length := by omega
                  rw [if_neg (by omega), if_neg (by omega), Nat.sub_self]
                  refine ⟨⟨fun _ => rfl, by simp, by simp; omega, rfl, fun j hj => ?_⟩, trivial⟩
                  cases j with
                  | zero => exact ⟨⟨rfl, by simp⟩, trivial⟩
                  | succ j => simp [addLo, purgeL, purge, refs, encI, leXL, leX]
            · obtain rfl : i = (divsL (m - 1 - q)).length := by omega
              refine ⟨q + 1, by omega, by omega, [], trivial, ?_⟩
              dsimp only [lsR, go_sem, Option.bind, Option.map, List.append_nil, Nat.beq, List.cons_append, List.nil_append, List.append_eq, List.map_cons, List.map_nil, ite_self, reduceIte]
              have e : IntKind.i64.wrap ((q : Int) + 1 + 1) = ((q + 1 : Nat) : Int) + 1 := by rw [w6_raw (by omega) (by omega)]; omega
              simp only [← preD_next, e, leS_mk, leL_cons, leL_nil, le_junk, le_int, le_bool, le_nil, leLL_nil, leLL_cons, leH_cons, leH_nil, leH1_box, leH1_own, leH1_gone, le_vs, le_agg, le_tup, le_ptr, le_own, le_xp, le_fn, le_opt, le_val, le_elem, le_nil_own, le_nil_vs, leH_ghost, leL_chunk, leXL_id, bnd_int, bnd_bool, bnd_val, bnd_nil, bnd_junk, bnd_vs, bnd_xp, bnd_agg, bnd_tup, bnd_ptr, bnd_own, bnd_elem, bnd_fn, bnd_iface, bnd_opt, bndL_nil, bndL_cons, lenH_cons, lenH_nil, imp_self, implies_true, true_and, and_true] <;> simp
        · obtain rfl : q = m := by omega
          have hall := preD_all hm0
          have hne : decide ((divsL q).length = 0) = false := by have := divs_pos hm0; exact decide_eq_false (by omega)
          rw [hall, hne]
          exact ans_vsN h rfl fun i hi => lsR_get
  · exact h.1.elim
theorem dv_zero : (dvC 0).ok Try.prog 41 := by
  intro args vs w F up k hx hc
  simp only [dvC] at hc
  split at hc
  · obtain ⟨m, ⟨_, hm⟩, _⟩ := hc
    omega
  · exact hc.1.elim
theorem dv_all : ∀ N, N ≤ 11 → (dvC N).ok Try.prog 41
  | 0, _ => dv_zero
  | N + 1, h => div_step (dv_all N (by omega)) (by omega)
def divC : Ctr := dvC 11
theorem div_ok : divC.ok Try.prog 41 := dv_all 11 (Nat.le_refl _)
end Go.Proofs.Ytojaibhjfeojjaa

/- Numbers by limbs, walked: limb, trim, Of, Order, Plus, Minus. -/
/- Numbers by limbs, walked: limb, trim, Of, Order, Plus, Minus. -/
set_option linter.all false
namespace Go.Proofs.Ytojaibhjfeojjaa
open Go Go.Vx
set_option maxRecDepth 100000
set_option maxHeartbeats 4000000

def R0 : Env := { ct := fun _ => none, fn := fun _ => none, meth := fun _ _ => none }
end Go.Proofs.Ytojaibhjfeojjaa

/- Whole numbers, walked: Times alone. -/
/- Whole numbers, walked: Times alone. -/
set_option linter.all false
namespace Go.Proofs.Ytojaibhjfeojjaa
open Go Go.Vx
set_option maxRecDepth 100000
set_option maxHeartbeats 4000000

end Go.Proofs.Ytojaibhjfeojjaa

/- Layouts, walked: the reference's reach. -/
/- Layouts, walked: the reference's reach. -/
set_option linter.all false
namespace Go.Proofs.Ytojaibhjfeojjaa
open Go Go.Vx
set_option maxRecDepth 100000
set_option maxHeartbeats 4000000

end Go.Proofs.Ytojaibhjfeojjaa

/- Layouts, walked: the reference's Reach, Blocked and Accept. -/
/- Layouts, walked: the reference's Reach, Blocked and Accept. -/
set_option linter.all false
namespace Go.Proofs.Ytojaibhjfeojjaa
open Go Go.Vx
set_option maxRecDepth 100000
set_option maxHeartbeats 4000000

def T3 : Env := { ct := fun n => match n with | 46 => some chC | 23 => some bkdC | 31 => some ckC | _ => none, fn := fun _ => none, meth := fun _ _ => none }
end Go.Proofs.Ytojaibhjfeojjaa

/- Layouts: the laws of checks and of reach, walked. -/
/- Layouts: the laws of checks and of reach, walked. -/
set_option linter.all false
namespace Go.Proofs.Ytojaibhjfeojjaa
open Go Go.Vx
set_option maxRecDepth 100000
set_option maxHeartbeats 4000000

def shT : List Sh := [.int .i64, .int .i64]
def shB : List Sh := [.int .i64, .int .i64, .int .i64, .int .i64, .int .i64, .slice shT]
theorem t_of {c : List SV} (h : okSL shT c) : ∃ p : Int × Int, c = encT p := by
  obtain ⟨_, _, rfl, ⟨n1, rfl, _⟩, e1⟩ := okSL_cons_inv h
  obtain ⟨_, _, rfl, ⟨n2, rfl, _⟩, e2⟩ := okSL_cons_inv e1
  cases okSL_nil_inv e2
  exact ⟨(n1, n2), rfl⟩
theorem list_of {α : Type} [Inhabited α] {sh : List Sh} {e : α → List SV} (he : ∀ c, okSL sh c → ∃ p, c = e p) {v : SV} (h : okS (.slice sh) v) :
    ∃ (z : Bool) (l : List α), l.length ≤ maxLen ∧ leX v (.vs false z l.length (lenSh sh) (fun k => e (l.getD k default))) := by
  obtain ⟨z, n, get, rfl, hn, hall⟩ := h
  have : ∀ k, ∃ p, k < n → get k = e p := fun k => by
    by_cases hk : k < n
    · obtain ⟨p, hp⟩ := he _ (hall k hk); exact ⟨p, fun _ => hp⟩
    · exact ⟨default, fun h => absurd h hk⟩
  obtain ⟨f, hf⟩ := Classical.axiomOfChoice this
  refine ⟨z, (List.range n).map f, by simpa using hn, ?_⟩
  have hl : ((List.range n).map f).length = n := by simp
  rw [hl]
  refine ⟨id, rfl, rfl, rfl, fun k hk => ?_⟩
  show leXL (get k) (e (((List.range n).map f).getD k default))
  rw [hf k hk, show ((List.range n).map f).getD k default = f k by rw [List.getD_eq_getElem?_getD, List.getElem?_map, List.getElem?_range hk]; rfl]
  exact leXL_self _
theorem b_of {c : List SV} (h : okSL shB c) : ∃ (z : Bool) (b : Brd), b.wk.length ≤ maxLen ∧ leXL c (encB false z b) := by
  obtain ⟨_, _, rfl, ⟨n1, rfl, _⟩, e1⟩ := okSL_cons_inv h
  obtain ⟨_, _, rfl, ⟨n2, rfl, _⟩, e2⟩ := okSL_cons_inv e1
  obtain ⟨_, _, rfl, ⟨n3, rfl, _⟩, e3⟩ := okSL_cons_inv e2
  obtain ⟨_, _, rfl, ⟨n4, rfl, _⟩, e4⟩ := okSL_cons_inv e3
  obtain ⟨_, _, rfl, ⟨n5, rfl, _⟩, e5⟩ := okSL_cons_inv e4
  obtain ⟨_, _, rfl, h6, e6⟩ := okSL_cons_inv e5
  cases okSL_nil_inv e6
  obtain ⟨z, l, hl, hle⟩ := list_of (fun _ => t_of) h6
  exact ⟨z, ⟨n1, n2, n3, n4, n5, l⟩, hl, ⟨rfl, rfl⟩, ⟨rfl, rfl⟩, ⟨rfl, rfl⟩, ⟨rfl, rfl⟩, ⟨rfl, rfl⟩, hle, trivial⟩

def L1 : Env := { ct := fun n => match n with | 10 => some trueC | 20 => some farC | 27 => some accC | 30 => some accC | 26 => some ckC | 31 => some ckC | _ => none, fn := fun _ => none, meth := fun _ _ => none }
end Go.Proofs.Ytojaibhjfeojjaa

