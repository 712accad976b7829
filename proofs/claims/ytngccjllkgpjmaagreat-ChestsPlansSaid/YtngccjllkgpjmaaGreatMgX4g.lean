/- Chests, walked: the laws' helpers; the document's examples; the law of Enough. -/
import Derived.Test.YtngccjllkgpjmaaGreatMgX4f
import Derived.Test.YtngccjllkgpjmaaGreatRows
/- Chests, walked: the laws' helpers; the document's examples; the law of Enough. -/
set_option linter.all false
namespace Go.Proofs.YtngccjllkgpjmaaGreat
open Go Go.Vx
set_option maxRecDepth 100000
set_option maxHeartbeats 4000000

def v17 : VF := { ntmps := 2, res := [.cell 0 true 4], body :=
 (.seq (.region [u1 0 (.alloc [(.int .i64 0), (.int .i64 0), (.int .i64 0), (.int .i64 0)]) []])
 (.seq (.region [u1 1 (.build [(.int .i64 0), (.int .i64 0), (.int .i64 0), (.int .i64 0)] [(0, 1), (1, 1), (2, 1), (3, 1)]) [.cn (.int .i64 20000), .cn (.int .i64 200000), .cn (.int .i64 6000), .cn (.int .i64 800000)],
 u0 (.store 4) [.tm 0, .tm 1]])
 .ret)) }
theorem v17_is : vfunc Tryz.prog Tryz.f17 = some v17 := by kernel_rfl
def v18 : VF := { ntmps := 17, res := [.cell 2 true 1], body :=
 (.seq (.region [u1 2 (.alloc [.nil]) []])
 (.seq (.region [u1 3 (.alloc [.nil]) []])
 (.seq (.seq (.region [u1 4 .mov [.cn (.int .i64 0)]])
 (.block 0 (.loop (.seq (.seq (.region [u1 5 .mov [.tm 4],
 u1 6 .mov [.tm 0],
 u1 7 (.cmp .lss) [.tm 5, .tm 6]])
 (.cond (.tm 7) .skip
  (.exit 0)))
 (.seq (.block 1 (.region [u1 10 (.fieldAddr 0) [.tm 3],
 u1 11 (.load false 1) [.tm 10],
 u1 12 (.build [(.int .i64 0), (.int .i64 0)] [(0, 1), (1, 1)]) [.cn (.int .i64 20000), .cn (.int .i64 700)],
 u1 13 (.buildSlice 2 1 [(.int .i64 0), (.int .i64 0)] [(0, 2)]) [.tm 12],
 u1 14 (.append 2 16 [(.int .i64 0), (.int .i64 0)]) [.tm 11, .tm 13],
 u1 15 (.fieldAddr 0) [.tm 3],
 u0 (.store 1) [.tm 15, .tm 14]]))
 (.region [u1 8 .mov [.tm 4],
 u1 9 (.ari .add) [.tm 8, .cn (.int .i64 1)],
 u1 4 .mov [.tm 9]]))))))
 (.seq (.region [u1 16 (.load true 1) [.tm 3],
 u0 (.store 1) [.tm 2, .tm 16]])
 .ret)))) }
theorem v18_is : vfunc Tryz.prog Tryz.f18 = some v18 := by kernel_rfl
def v16 : VF := { ntmps := 26, res := [.tmp 4], body :=
 (.seq (.region [u1 4 .mov [.cn (.bool false)]])
 (.seq (.seq (.region [u1 6 .mov [.tm 0],
 u1 7 .len [.tm 6],
 u1 8 .mov [.tm 1],
 u1 9 .len [.tm 8],
 u1 10 (.cmp .neq) [.tm 7, .tm 9]])
 (.cond (.tm 10) (.seq (.region [u1 4 .mov [.cn (.bool false)]])
 .ret)
  .skip))
 (.seq (.seq (.region [u1 5 .mov [.cn (.int .i64 0)]])
 (.block 0 (.loop (.seq (.seq (.region [u1 11 .mov [.tm 5],
 u1 12 .mov [.tm 0],
 u1 13 .len [.tm 12],
 u1 14 (.cmp .lss) [.tm 11, .tm 13]])
 (.cond (.tm 14) .skip
  (.exit 0)))
 (.seq (.block 1 (.seq (.draw [] [w1 17 .mov [.tm 0],
 w1 18 .mov [.tm 5],
 w1 19 (.idxAddr 1) [.tm 17, .tm 18],
 w1 20 (.load false 1) [.tm 19],
 w1 21 .mov [.tm 1],
 w1 22 .mov [.tm 5],
 w1 23 (.idxAddr 1) [.tm 21, .tm 22],
 w1 24 (.load false 1) [.tm 23],
 w1 25 (.cmp .neq) [.tm 20, .tm 24]])
 (.cond (.tm 25) (.seq (.region [u1 4 .mov [.cn (.bool false)]])
 .ret)
  .skip)))
 (.region [u1 15 .mov [.tm 5],
 u1 16 (.ari .add) [.tm 15, .cn (.int .i64 1)],
 u1 5 .mov [.tm 16]]))))))
 (.seq (.region [u1 4 .mov [.cn (.bool true)]])
 .ret)))) }
theorem v16_is : vfunc Tryz.prog Tryz.f16 = some v16 := by kernel_rfl
def v5 : VF := { ntmps := 112, res := [.tmp 0], body :=
 (.seq (.region [u1 0 .mov [.cn (.bool false)]])
 (.seq (.region [u1 17 (.call 17) [],
 u1 18 (.buildSlice 4 1 [(.int .i64 0), (.int .i64 0), (.int .i64 0), (.int .i64 0)] [(0, 4)]) [.tm 17],
 u1 1 .mov [.tm 18]])
 (.seq (.region [u1 19 (.build [(.int .i64 0), (.int .i64 0), (.int .i64 0)] [(0, 1), (1, 1), (2, 1)]) [.cn (.int .i64 100), .cn (.int .i64 600), .cn (.int .i64 4000000)],
 u1 2 (.alloc [(.int .i64 0), (.int .i64 0), (.int .i64 0)]) [],
 u0 (.store 3) [.tm 2, .tm 19]])
 (.seq (.region [u1 21 (.call 17) [],
 u1 22 (.call 8) [.tm 21],
 u1 20 .mov [.tm 22],
 u1 23 (.ext 0) [.tm 20],
 u1 24 (.ext 1) [.tm 20],
 u1 3 .mov [.tm 23],
 u1 4 .mov [.tm 24]])
 (.seq (.region [u1 26 (.call 17) [],
 u1 27 (.call 10) [.tm 26, .cn (.int .i64 600)],
 u1 25 .mov [.tm 27],
 u1 28 (.ext 0) [.tm 25],
 u1 29 (.ext 1) [.tm 25],
 u1 5 (.alloc [(.int .i64 0), (.int .i64 0)]) [],
 u0 (.store 2) [.tm 5, .tm 28],
 u1 6 .mov [.tm 29]])
 (.seq (.region [u1 31 (.call 18) [.cn (.int .i64 1)],
 u1 32 (.call 6) [.tm 31],
 u1 30 .mov [.tm 32],
 u1 33 (.ext 0) [.tm 30],
 u1 34 (.ext 1) [.tm 30],
 u1 7 (.alloc [(.int .i64 0), (.int .i64 0)]) [],
 u0 (.store 2) [.tm 7, .tm 33],
 u1 8 .mov [.tm 34]])
 (.seq (.region [u1 36 (.call 18) [.cn (.int .i64 1)],
 u1 37 .mov [.tm 1],
 u1 38 (.call 19) [.tm 36, .tm 37, .cn (.int .i64 500)],
 u1 35 .mov [.tm 38],
 u1 39 (.ext 0) [.tm 35],
 u1 40 (.ext 1) [.tm 35],
 u1 9 .mov [.tm 39],
 u1 10 .mov [.tm 40]])
 (.seq (.draw [] [w1 43 .mov [.tm 1],
 w1 44 (.load true 3) [.tm 2],
 w1 42 (.call 18) [.cn (.int .i64 8)],
 w1 45 (.call 20) [.tm 42, .tm 43, .tm 44],
 w1 41 .mov [.tm 45],
 w1 46 (.ext 0) [.tm 41],
 w1 47 (.ext 1) [.tm 41],
 w1 11 .mov [.tm 46],
 w1 12 .mov [.tm 47]])
 (.seq (.draw [] [w1 50 .mov [.tm 1],
 w1 51 (.load true 3) [.tm 2],
 w1 49 (.call 18) [.cn (.int .i64 9)],
 w1 52 (.call 20) [.tm 49, .tm 50, .tm 51],
 w1 48 .mov [.tm 52],
 w1 53 (.ext 0) [.tm 48],
 w1 54 (.ext 1) [.tm 48],
 w1 13 .mov [.tm 53],
 w1 14 .mov [.tm 54]])
 (.seq (.region [u1 56 (.build [(.int .i64 0), (.int .i64 0)] [(0, 1), (1, 1)]) [.cn (.int .i64 10000), .cn (.int .i64 700)],
 u1 57 (.call 12) [.tm 56, .cn (.int .i64 1000000), .cn (.int .i64 2)],
 u1 55 .mov [.tm 57],
 u1 58 (.ext 0) [.tm 55],
 u1 59 (.ext 1) [.tm 55],
 u1 15 (.alloc [(.int .i64 0), (.int .i64 0)]) [],
 u0 (.store 2) [.tm 15, .tm 58],
 u1 16 .mov [.tm 59]])
 (.seq (.seq (.region [u1 60 .mov [.tm 4],
 u1 61 (.cmp .neq) [.tm 60, .cn (.int .i64 0)],
 u1 62 .mov [.tm 61],
 u2 63 62 false .mov [.tm 6],
 u2 64 62 false (.cmp .neq) [.tm 63, .cn (.int .i64 0)],
 u1 65 .or [.tm 62, .tm 64],
 u1 66 .mov [.tm 65],
 u2 67 66 false .mov [.tm 8],
 u2 68 66 false (.cmp .neq) [.tm 67, .cn (.int .i64 0)],
 u1 69 .or [.tm 66, .tm 68],
 u1 70 .mov [.tm 69],
 u2 71 70 false .mov [.tm 10],
 u2 72 70 false (.cmp .neq) [.tm 71, .cn (.int .i64 0)],
 u1 73 .or [.tm 70, .tm 72],
 u1 74 .mov [.tm 73],
 u2 75 74 false .mov [.tm 12],
 u2 76 74 false (.cmp .neq) [.tm 75, .cn (.int .i64 0)],
 u1 77 .or [.tm 74, .tm 76],
 u1 78 .mov [.tm 77],
 u2 79 78 false .mov [.tm 14],
 u2 80 78 false (.cmp .neq) [.tm 79, .cn (.int .i64 4)],
 u1 81 .or [.tm 78, .tm 80],
 u1 82 .mov [.tm 81],
 u2 83 82 false .mov [.tm 16],
 u2 84 82 false (.cmp .neq) [.tm 83, .cn (.int .i64 0)],
 u1 85 .or [.tm 82, .tm 84]])
 (.cond (.tm 85) (.seq (.region [u1 0 .mov [.cn (.bool false)]])
 .ret)
  .skip))
 (.seq (.region [u1 86 .mov [.tm 3],
 u1 87 (.cmp .eql) [.tm 86, .cn (.int .i64 1320000000)],
 u1 88 .mov [.tm 87],
 u2 89 88 true (.load true 2) [.tm 5],
 u2 90 88 true (.build [(.int .i64 0), (.int .i64 0)] [(0, 1), (1, 1)]) [.cn (.int .i64 3200000), .cn (.int .i64 3200000)],
 u2 91 88 true (.eqv false [true, true]) [.tm 89, .tm 90],
 u1 92 .and [.tm 88, .tm 91],
 u1 93 .mov [.tm 92],
 u2 94 93 true (.load true 2) [.tm 7],
 u2 95 93 true (.build [(.int .i64 0), (.int .i64 0)] [(0, 1), (1, 1)]) [.cn (.int .i64 314159265), .cn (.int .i64 314159266)],
 u2 96 93 true (.eqv false [true, true]) [.tm 94, .tm 95],
 u1 97 .and [.tm 93, .tm 96],
 u1 98 .mov [.tm 97],
 u2 99 98 true .mov [.tm 9],
 u2 100 98 true (.cmp .eql) [.tm 99, .cn (.int .i64 (-1))],
 u1 101 .and [.tm 98, .tm 100],
 u1 102 .mov [.tm 101],
 u2 103 102 true .mov [.tm 11],
 u2 104 102 true (.buildSlice 1 2 [(.int .i64 0)] [(0, 1), (1, 1)]) [.cn (.int .i64 0), .cn (.int .i64 0)],
 u2 105 102 true (.call 16) [.tm 103, .tm 104],
 u1 106 .and [.tm 102, .tm 105],
 u1 107 .mov [.tm 106],
 u2 108 107 true (.load true 2) [.tm 15],
 u2 109 107 true (.build [(.int .i64 0), (.int .i64 0)] [(0, 1), (1, 1)]) [.cn (.int .i64 10954), .cn (.int .i64 10955)],
 u2 110 107 true (.eqv false [true, true]) [.tm 108, .tm 109],
 u1 111 .and [.tm 107, .tm 110],
 u1 0 .mov [.tm 111]])
 .ret)))))))))))) }
theorem v5_is : vfunc Tryz.prog Tryz.f5 = some v5 := by kernel_rfl


def plC : Ctr := { alias := false, of := fun l => match l with
  | [] => .fin (.agg [.int .i64 20000, .int .i64 200000, .int .i64 6000, .int .i64 800000]) []
  | _ => noC }
def chaC : Ctr := { alias := false, of := fun l => match l with
  | [.int .i64 n] => .pre (0 ≤ n ∧ n ≤ 1000) (.fin (.agg [.vs true (decide (n.toNat = 0)) n.toNat 2 (fun _ => enc2 (20000, 700))]) [])
  | _ => noC }
def samC {α : Type} [Inhabited α] [DecidableEq α] (size : Nat) (e : α → List SV) : Ctr := { alias := false, of := fun l => match l with
  | [.vs _ _ n sz get, .vs _ _ m sz' get'] => .ex (List α) fun a => .ex (List α) fun b => .pre (lsP size e n sz get a ∧ lsP size e m sz' get' b ∧ a.length ≤ 1000000000000) (.fin (.bool (decide (a = b))) [])
  | _ => noC }
def samIC : Ctr := samC 1 enc1
def L0 : Env := { ct := fun _ => none, fn := fun _ => none, meth := fun _ _ => none }
theorem L0_ok : EnvOk Tryz.prog L0 := by
  refine ⟨fun f c h => ?_, fun f vf h => ?_, (fun _ _ _ h => by cases h), by kernel_rfl⟩
  · cases h
  · cases h

theorem pl_ok : plC.ok Tryz.prog 17 := by
  refine contract Tryz.func17 v17_is L0_ok 100 plC fun args k h => ⟨args, ?_⟩
  simp only [plC] at h
  split at h
  · refine ⟨by simp [leL, le], ?_⟩
    dsimp only [v17, go_sem, Option.bind, Option.map, List.append_nil, Nat.beq, List.cons_append, List.nil_append, List.append_eq, List.map_cons, List.map_nil, ite_self, reduceIte]
    simp only [true_and, and_true, imp_self, implies_true, decide_eq_true_eq, decide_eq_false_iff_not, Nat.reduceAdd, Nat.reduceLeDiff, Bool.not_not, reduceCtorEq, false_imp_iff, Bool.not_eq_true', Bool.not_eq_false', Bool.false_eq_true, and_self, forall_const, ne_eq, not_false_eq_true, Nat.reduceEqDiff]
    exact ans_le (show k _ [] from h) (leX_le (.agg [.int _ _, .int _ _, .int _ _, .int _ _]) _ (leXL_self _) ⟨trivial, trivial, trivial, trivial, trivial⟩) (fun _ => by simp [freshS, freshL])
  · exact h.1.elim
theorem cha_ok : chaC.ok Tryz.prog 18 := by
  refine contract Tryz.func18 v18_is L0_ok 100 chaC fun args k h => ⟨args, ?_⟩
  simp only [chaC] at h
  split at h
  · rename_i n
    obtain ⟨⟨h0, h1⟩, h⟩ := h
    refine ⟨by simp [leL, le], ?_⟩
    obtain ⟨n, rfl⟩ := Int.eq_ofNat_of_zero_le h0
    have h : k (.agg [.vs true (decide (n = 0)) n 2 (fun _ => enc2 (20000, 700))]) [] := h
    dsimp only [v18, go_sem, Option.bind, Option.map, List.append_nil, Nat.beq, List.cons_append, List.nil_append, List.append_eq, List.map_cons, List.map_nil, ite_self, reduceIte]
    simp only [true_and, and_true, imp_self, implies_true, decide_eq_true_eq, decide_eq_false_iff_not, Nat.reduceAdd, Nat.reduceLeDiff, Bool.not_not, reduceCtorEq, false_imp_iff, Bool.not_eq_true', Bool.not_eq_false', Bool.false_eq_true, and_self, forall_const, ne_eq, not_false_eq_true, Nat.reduceEqDiff]
    refine Loop.keep [0, 1, 0] Nat (fun i => [(4, .int .i64 i)]) (fun i => [(1, .box [.own 2 0 i 2]), (2, .own (decide (i = 0)) 2 i (fun _ => enc2 (20000, 700)))]) [.gone] (fun i => i ≤ n) (fun i => n - i) ?_ ?_
    · refine ⟨0, Nat.zero_le _, ?_⟩
      dsimp only [go_sem, Option.bind, Option.map, List.append_nil, Nat.beq, List.cons_append, List.nil_append, List.append_eq, List.map_cons, List.map_nil, ite_self, reduceIte]
      simp only [leH_ghost, leS_mk, leL_cons, leL_nil, le_junk, le_int, le_bool, le_nil, leLL_nil, leLL_cons, leH_cons, leH_nil, leH1_box, leH1_own, leH1_gone, le_vs, le_agg, le_tup, le_ptr, le_own, le_xp, le_fn, le_opt, le_val, le_elem, le_nil_own, le_nil_vs, leH_ghost, leL_chunk, leXL_id, bnd_int, bnd_bool, bnd_val, bnd_nil, bnd_junk, bnd_vs, bnd_xp, bnd_agg, bnd_tup, bnd_ptr, bnd_own, bnd_elem, bnd_fn, bnd_iface, bnd_opt, bndL_nil, bndL_cons, lenH_cons, lenH_nil, imp_self, implies_true, true_and, and_true] <;> simp
    · rintro i hi
      dsimp only [enc2, go_sem, Option.bind, Option.map, List.append_nil, Nat.beq, List.cons_append, List.nil_append, List.append_eq, List.map_cons, List.map_nil, ite_self, reduceIte]
      simp only [true_and, and_true, imp_self, implies_true, decide_eq_true_eq, decide_eq_false_iff_not, Nat.reduceAdd, Nat.reduceLeDiff, Bool.not_not, reduceCtorEq, false_imp_iff, Bool.not_eq_true', Bool.not_eq_false', Bool.false_eq_true, and_self, forall_const, ne_eq, not_false_eq_true, Nat.reduceEqDiff]
      refine ⟨fun hlt => ?_, fun hge => ?_⟩
      · refine ⟨by decide, ⟨by unfold capOk; omega, fun k hk => ?_⟩, i + 1, by omega, by omega, ?_⟩
        · obtain rfl : k = 0 := by omega
          exact ⟨rfl, trivial, trivial, trivial⟩
        · simp only [w_succ (i := i) (n := n) (by omega) (by omega), leS_mk, leL_cons, leL_nil, le_junk, le_int, le_bool, le_nil, leLL_nil, leLL_cons, leH_cons, leH_nil, leH1_box, leH1_own, leH1_gone, le_vs, le_agg, le_tup, le_ptr, le_own, le_xp, le_fn, le_opt, le_val, le_elem, le_nil_own, le_nil_vs, leH_ghost, leL_chunk, leXL_id, bnd_int, bnd_bool, bnd_val, bnd_nil, bnd_junk, bnd_vs, bnd_xp, bnd_agg, bnd_tup, bnd_ptr, bnd_own, bnd_elem, bnd_fn, bnd_iface, bnd_opt, bndL_nil, bndL_cons, lenH_cons, lenH_nil, imp_self, implies_true, true_and, and_true]
          refine ⟨by omega, by omega, by simp, fun k hk => ?_⟩
          split
          · exact ⟨⟨rfl, rfl⟩, ⟨rfl, rfl⟩, trivial⟩
          · obtain rfl : k = i := by omega
            rw [Nat.sub_self]
            exact ⟨⟨rfl, rfl⟩, ⟨rfl, rfl⟩, trivial⟩
      · obtain rfl : i = n := by omega
        refine ans_le (show k _ [] from h) ?_ (fun _ => by simp [enc2, freshS, freshL])
        simp only [expo, view, viewL, getH]
        exact ⟨⟨fun h => h, rfl, rfl, rfl, fun q _ => ⟨⟨rfl, rfl⟩, ⟨rfl, rfl⟩, trivial⟩⟩, trivial⟩
  · exact h.1.elim
theorem list_ne {α : Type} [Inhabited α] {a b : List α} {i : Nat} (h : a.getD i default ≠ b.getD i default) : a ≠ b := fun e => h (by rw [e])
theorem samI_ok : samIC.ok Tryz.prog 16 := by
  refine contract Tryz.func16 v16_is L0_ok 200 samIC fun args k h => ?_
  simp only [samIC, samC] at h
  split at h
  · rename_i t z n sz get t' z' m sz' get'
    obtain ⟨a, b, ⟨⟨rfl, rfl, hg⟩, ⟨rfl, rfl, hg'⟩, hbig⟩, h⟩ := h
    refine ⟨[.vs t z a.length 1 (fun k => enc1 (a.getD k default)), .vs t' z' b.length 1 (fun k => enc1 (b.getD k default))], ⟨by simpa [le] using hg, by simpa [le] using hg', trivial⟩, ?_⟩
    have h : k (.bool (decide (a = b))) [] := h
    dsimp only [v16, enc1, go_sem, Option.bind, Option.map, List.append_nil, Nat.beq, List.cons_append, List.nil_append, List.append_eq, List.map_cons, List.map_nil, ite_self, reduceIte]
    simp only [true_and, and_true, imp_self, implies_true, decide_eq_true_eq, decide_eq_false_iff_not, Nat.reduceAdd, Nat.reduceLeDiff, Bool.not_not, reduceCtorEq, false_imp_iff, Bool.not_eq_true', Bool.not_eq_false', Bool.false_eq_true, and_self, forall_const, ne_eq, not_false_eq_true, Nat.reduceEqDiff]
    refine ⟨fun hc => ?_, fun hc => ?_⟩
    · rw [decide_eq_false (show ¬ a = b from fun e => by rw [e] at hc; omega)] at h; exact ans_bool h
    · have hlen : a.length = b.length := by omega
      refine Loop.keep [0, 0, 3] Nat (fun i => [(5, .int .i64 i)]) (fun _ => []) [] (fun i => i ≤ a.length ∧ ∀ j, j < i → a.getD j default = b.getD j default) (fun i => a.length - i) ?_ ?_
      · refine ⟨0, ⟨Nat.zero_le _, fun j h => by omega⟩, ?_⟩
        dsimp only [go_sem, Option.bind, Option.map, List.append_nil, Nat.beq, List.cons_append, List.nil_append, List.append_eq, List.map_cons, List.map_nil, ite_self, reduceIte]
        simp only [leS_mk, leL_cons, leL_nil, le_junk, le_int, le_bool, le_nil, leLL_nil, leLL_cons, leH_cons, leH_nil, leH1_box, leH1_own, leH1_gone, le_vs, le_agg, le_tup, le_ptr, le_own, le_xp, le_fn, le_opt, le_val, le_elem, le_nil_own, le_nil_vs, leH_ghost, leL_chunk, leXL_id, bnd_int, bnd_bool, bnd_val, bnd_nil, bnd_junk, bnd_vs, bnd_xp, bnd_agg, bnd_tup, bnd_ptr, bnd_own, bnd_elem, bnd_fn, bnd_iface, bnd_opt, bndL_nil, bndL_cons, lenH_cons, lenH_nil, imp_self, implies_true, true_and, and_true]
        simp
      · rintro i ⟨hi, ha⟩
        dsimp only [enc1, Int.toNat_natCast, go_sem, Option.bind, Option.map, List.append_nil, Nat.beq, List.cons_append, List.nil_append, List.append_eq, List.map_cons, List.map_nil, ite_self, reduceIte]
        simp only [true_and, and_true, imp_self, implies_true, decide_eq_true_eq, decide_eq_false_iff_not, Nat.reduceAdd, Nat.reduceLeDiff, Bool.not_not, reduceCtorEq, false_imp_iff, Bool.not_eq_true', Bool.not_eq_false', Bool.false_eq_true, and_self, forall_const, ne_eq, not_false_eq_true, Nat.reduceEqDiff]
        refine ⟨fun hlt => ?_, fun hge => ?_⟩
        · refine ⟨⟨by omega, hlt⟩, ⟨by omega, by omega⟩, ?_⟩
          refine ⟨fun hne => ?_, fun heq => ?_⟩
          · rw [decide_eq_false (list_ne (a := a) (b := b) (i := i) fun e => hne (by rw [e]))] at h; exact ans_bool h
          · refine ⟨i + 1, ⟨by omega, fun j hj => ?_⟩, by omega, ?_⟩
            · rcases Nat.lt_or_ge j i with h' | h'
              · exact ha j h'
              · obtain rfl : j = i := by omega
                omega
            · simp only [w_succ (i := i) (n := a.length) (by omega) (by omega), leS_mk, leL_cons, leL_nil, le_junk, le_int, le_bool, le_nil, leLL_nil, leLL_cons, leH_cons, leH_nil, leH1_box, leH1_own, leH1_gone, le_vs, le_agg, le_tup, le_ptr, le_own, le_xp, le_fn, le_opt, le_val, le_elem, le_nil_own, le_nil_vs, leH_ghost, leL_chunk, leXL_id, bnd_int, bnd_bool, bnd_val, bnd_nil, bnd_junk, bnd_vs, bnd_xp, bnd_agg, bnd_tup, bnd_ptr, bnd_own, bnd_elem, bnd_fn, bnd_iface, bnd_opt, bndL_nil, bndL_cons, lenH_cons, lenH_nil, imp_self, implies_true, true_and, and_true] <;> simp
        · have e : a = b := list_ext hlen fun i h => ha i (by omega)
          rw [decide_eq_true e] at h; exact ans_bool h
  · exact h.1.elim

def A0 : Env := { ct := fun n => match n with | 17 => some plC | 18 => some chaC | 16 => some samIC | 8 => some OpC | 10 => some FoC | 6 => some ArC | 19 => some EnC | 20 => some ChC | 12 => some TuC | _ => none, fn := fun _ => none, meth := fun _ _ => none }
theorem A0_ct17 : A0.ct 17 = some plC := rfl
theorem A0_ct18 : A0.ct 18 = some chaC := rfl
theorem A0_ct16 : A0.ct 16 = some samIC := rfl
theorem A0_ct8 : A0.ct 8 = some OpC := rfl
theorem A0_ct10 : A0.ct 10 = some FoC := rfl
theorem A0_ct6 : A0.ct 6 = some ArC := rfl
theorem A0_ct19 : A0.ct 19 = some EnC := rfl
theorem A0_ct20 : A0.ct 20 = some ChC := rfl
theorem A0_ct12 : A0.ct 12 = some TuC := rfl
theorem A0_ok : EnvOk Tryz.prog A0 := by
  refine ⟨fun f c h => ?_, fun f vf h => ?_, (fun _ _ _ h => by cases h), by kernel_rfl⟩
  · simp only [A0] at h
    split at h
    · cases h; exact ⟨pl_ok, Tryz.f17, Tryz.func17, by kernel_rfl, by kernel_rfl⟩
    · cases h; exact ⟨cha_ok, Tryz.f18, Tryz.func18, by kernel_rfl, by kernel_rfl⟩
    · cases h; exact ⟨samI_ok, Tryz.f16, Tryz.func16, by kernel_rfl, by kernel_rfl⟩
    · cases h; exact ⟨Op_ok, Tryz.f8, Tryz.func8, by kernel_rfl, by kernel_rfl⟩
    · cases h; exact ⟨Fo_ok, Tryz.f10, Tryz.func10, by kernel_rfl, by kernel_rfl⟩
    · cases h; exact ⟨Ar_ok, Tryz.f6, Tryz.func6, by kernel_rfl, by kernel_rfl⟩
    · cases h; exact ⟨En_ok, Tryz.f19, Tryz.func19, by kernel_rfl, by kernel_rfl⟩
    · cases h; exact ⟨Ch_ok, Tryz.f20, Tryz.func20, by kernel_rfl, by kernel_rfl⟩
    · cases h; exact ⟨Tu_ok, Tryz.f12, Tryz.func12, by kernel_rfl, by kernel_rfl⟩
    · cases h
  · cases h

def toes (n : Nat) : List Iv := List.replicate n (20000, 700)
def pal0 : Plt := ⟨20000, 200000, 6000, 800000⟩
theorem toes_ls {n : Nat} : lsP 2 enc2 n 2 (fun _ => [SV.int .i64 20000, .int .i64 700]) (toes n) := by
  refine ⟨rfl, by simp [toes], fun k hk => ?_⟩
  rw [show (toes n).getD k default = (20000, 700) by simp [toes, List.getD_eq_getElem?_getD, List.getElem?_replicate, hk]]
  exact leXL_self _
theorem awake_ok : trueC.ok Tryz.prog 5 := by
  refine contract Tryz.func5 v5_is A0_ok 400 trueC fun args k h => ⟨args, ?_⟩
  simp only [trueC] at h
  split at h
  · refine ⟨by simp [leL], ?_⟩
    dsimp only [v5, A0_ct17, A0_ct18, A0_ct16, A0_ct8, A0_ct10, A0_ct6, A0_ct19, A0_ct20, A0_ct12, plC, chaC, samIC, samC, OpC, FoC, ArC, EnC, ChC, TuC, vsI, enc2, enc1, go_sem, Option.bind, Option.map, List.append_nil, Nat.beq, List.cons_append, List.nil_append, List.append_eq, List.map_cons, List.map_nil, ite_self, reduceIte]
    simp only [true_and, and_true, imp_self, implies_true, decide_eq_true_eq, decide_eq_false_iff_not, Nat.reduceAdd, Nat.reduceLeDiff, Bool.not_not, reduceCtorEq, false_imp_iff, Bool.not_eq_true', Bool.not_eq_false', Bool.false_eq_true, and_self, forall_const, ne_eq, not_false_eq_true, Nat.reduceEqDiff]
    have hp : ∀ G : Nat → List SV, leXL (G 0) (encP pal0) → lsP 4 encP 1 4 G [pal0] := fun G hG => ⟨rfl, rfl, fun k hk => match k, hk with | 0, _ => hG⟩
    refine ⟨by decide, by decide, by decide, by decide, by decide, by decide, toes 1, ⟨toes_ls, by simp [toes]⟩, by decide, by decide, by decide, toes 1, [pal0], ⟨toes_ls, hp _ (leXL_self _), by simp [toes], by simp⟩, by decide, by decide, by decide, toes 8, [pal0], ⟨toes_ls, hp _ (leXL_self _), by simp [toes], by simp⟩, ?_⟩
    refine ⟨by decide, by decide, by decide, toes 9, [pal0], ⟨toes_ls, hp _ (leXL_self _), by simp [toes], by simp⟩, by decide, by decide, by decide, by decide, ?_⟩
    have e1 : oF ⟨20000, 200000, 6000, 800000⟩ = (1320000000, 0) := by decide +kernel
    have e2 : fF ⟨20000, 200000, 6000, 800000⟩ 600 = ((3200000, 3200000), 0) := by decide +kernel
    have e3 : aF (toes 1) = ((314159265, 314159266), 0) := by decide +kernel
    have e4 : enoF (toes 1) [pal0] 500 = (-1, 0) := by decide +kernel
    have e5 : choF (toes 8) [pal0] ⟨100, 600, 4000000⟩ = ([0, 0], 0) := by decide +kernel
    have e6 : choF (toes 9) [pal0] ⟨100, 600, 4000000⟩ = ([], 4) := by decide +kernel
    have e7 : tF (10000, 700) 1000000 2 = ((10954, 10955), 0) := by decide +kernel
    simp only [e1, e2, e3, e4, e5, e6, e7]
    simp only [true_and, and_true, imp_self, implies_true, decide_eq_true_eq, decide_eq_false_iff_not, Nat.reduceAdd, Nat.reduceLeDiff, Bool.not_not, reduceCtorEq, false_imp_iff, Bool.not_eq_true', Bool.not_eq_false', Bool.false_eq_true, and_self, forall_const, ne_eq, not_false_eq_true, Nat.reduceEqDiff, decide_true, decide_false, Bool.and_true, Bool.true_and, Bool.and_false, Bool.false_and, Bool.not_true, Bool.not_false, Bool.or_false, Bool.false_or, Bool.or_true, Bool.true_or, Bool.and_self, Bool.or_self, Bool.false_eq_true, Bool.true_eq_false, false_imp_iff, forall_const, true_and, and_true, implies_true, reduceCtorEq, not_true_eq_false, not_false_eq_true, ite_true, ite_false]
    refine ⟨by decide, [0, 0], [0, 0], ⟨lsP_self, ⟨rfl, rfl, fun k hk => match k, hk with | 0, _ => leXL_self _ | 1, _ => leXL_self _⟩, by simp⟩, ?_⟩
    exact ans_bool h
  · exact h.1.elim

/-! ### Shapes -/

def shT : List Sh := [.int .i64, .int .i64]
def shP : List Sh := [.int .i64, .int .i64, .int .i64, .int .i64]
def shW : List Sh := [.int .i64, .int .i64, .int .i64]
def shC : List Sh := [.slice shT]
theorem t_of {c : List SV} (h : okSL shT c) : ∃ p : Iv, c = enc2 p := by
  obtain ⟨_, _, rfl, ⟨n1, rfl, _⟩, e1⟩ := okSL_cons_inv h
  obtain ⟨_, _, rfl, ⟨n2, rfl, _⟩, e2⟩ := okSL_cons_inv e1
  cases okSL_nil_inv e2
  exact ⟨(n1, n2), rfl⟩
theorem p_of {c : List SV} (h : okSL shP c) : ∃ p : Plt, c = encP p := by
  obtain ⟨_, _, rfl, ⟨n1, rfl, _⟩, e1⟩ := okSL_cons_inv h
  obtain ⟨_, _, rfl, ⟨n2, rfl, _⟩, e2⟩ := okSL_cons_inv e1
  obtain ⟨_, _, rfl, ⟨n3, rfl, _⟩, e3⟩ := okSL_cons_inv e2
  obtain ⟨_, _, rfl, ⟨n4, rfl, _⟩, e4⟩ := okSL_cons_inv e3
  cases okSL_nil_inv e4
  exact ⟨⟨n1, n2, n3, n4⟩, rfl⟩
theorem sls_of {α : Type} [Inhabited α] {sh : List Sh} {e : α → List SV} (he : ∀ c, okSL sh c → ∃ p, c = e p) {v : SV} (h : okS (.slice sh) v) :
    ∃ (z : Bool) (l : List α), l.length ≤ maxLen ∧ leX v (.vs false z l.length (lenSh sh) (fun k => e (l.getD k default))) :=
  slice_of (fun c hc => let ⟨p, h⟩ := he c hc; ⟨p, by rw [h]; exact leXL_self _⟩) h
theorem c_of {c : List SV} (h : okSL shC c) : ∃ (z : Bool) (l : List Iv), l.length ≤ maxLen ∧ leXL c [.vs false z l.length 2 (fun k => enc2 (l.getD k default))] := by
  obtain ⟨_, _, rfl, h6, e6⟩ := okSL_cons_inv h
  cases okSL_nil_inv e6
  obtain ⟨z, l, hl, hle⟩ := sls_of (fun _ => t_of) h6
  exact ⟨z, l, hl, hle, trivial⟩

end Go.Proofs.YtngccjllkgpjmaaGreat

/- Intervals, walked: the reference's Pow. -/
/- Intervals, walked: the reference's Pow. -/
set_option linter.all false
namespace Go.Proofs.YtngccjllkgpjmaaGreat
open Go Go.Vx
set_option maxRecDepth 100000
set_option maxHeartbeats 4000000

end Go.Proofs.YtngccjllkgpjmaaGreat

/- Numbers, walked: Pow, Shift of one, Root. -/
/- Numbers, walked: Pow, Shift of one, Root. -/
set_option linter.all false
namespace Go.Proofs.YtngccjllkgpjmaaGreat
open Go Go.Vx
set_option maxRecDepth 100000
set_option maxHeartbeats 4000000

theorem ans_ni {k : SV → List HO → Prop} {al : Bool} {hp : List HO} {z : Bool} {κ : IntKind} {b : Int} {a : Nat} (h : k (.tup [natS z a, .int κ b]) []) : answers al k (.tup [.vs true z (nl a) 1 (fun k => [.int .u32 (dig a k)]), .int κ b]) hp :=
  ans_le h (le_self (.tup [natS z a, .int κ b]) ⟨trivial, trivial, trivial⟩) (fun _ => by simp [natS, freshS, freshL])

end Go.Proofs.YtngccjllkgpjmaaGreat

/- Numbers, walked: Shift to the left, Root. (Under way.) -/
/- Numbers, walked: Shift to the left, Root. (Under way.) -/
set_option linter.all false
namespace Go.Proofs.YtngccjllkgpjmaaGreat
open Go Go.Vx
set_option maxRecDepth 100000
set_option maxHeartbeats 4000000

def v96 : VF := { ntmps := 74, res := [.tmp 4, .tmp 5], body :=
 (.seq (.region [u1 4 .mov [.cn .nil],
 u1 5 .mov [.cn (.int .i64 0)]])
 (.seq (.region [u1 9 .mov [.tm 0],
 u1 10 (.buildSlice 1 1 [.nil] [(0, 1)]) [.tm 9],
 u1 11 (.call 94) [.tm 10],
 u1 6 .mov [.tm 11]])
 (.seq (.seq (.region [u1 12 .mov [.tm 6],
 u1 13 (.cmp .eql) [.tm 12, .cn (.int .i64 0)],
 u1 14 .mov [.tm 13],
 u2 15 14 true .mov [.tm 1],
 u2 16 14 true (.cmp .lss) [.tm 15, .cn (.int .i64 (-20000))],
 u2 17 14 true .mov [.tm 16],
 u2 18 17 false .mov [.tm 1],
 u2 19 17 false (.cmp .gtr) [.tm 18, .cn (.int .i64 20000)],
 u2 20 14 true .or [.tm 17, .tm 19],
 u1 21 .and [.tm 14, .tm 20]])
 (.cond (.tm 21) (.region [u1 6 .mov [.cn (.int .i64 2)]])
  .skip))
 (.seq (.seq (.region [u1 22 .mov [.tm 6],
 u1 23 (.cmp .eql) [.tm 22, .cn (.int .i64 0)],
 u1 24 .mov [.tm 23],
 u2 25 24 true .mov [.tm 0],
 u2 26 24 true .len [.tm 25],
 u2 27 24 true (.cmp .gtr) [.tm 26, .cn (.int .i64 0)],
 u1 28 .and [.tm 24, .tm 27],
 u1 29 .mov [.tm 28],
 u2 30 29 true .mov [.tm 0],
 u2 31 29 true (.call 95) [.tm 30],
 u2 32 29 true .mov [.tm 1],
 u2 33 29 true (.ari .add) [.tm 31, .tm 32],
 u2 34 29 true (.cmp .gtr) [.tm 33, .cn (.int .i64 16384)],
 u1 35 .and [.tm 29, .tm 34]])
 (.cond (.tm 35) (.region [u1 6 .mov [.cn (.int .i64 3)]])
  .skip))
 (.seq (.seq (.region [u1 36 .mov [.tm 6],
 u1 37 (.cmp .neq) [.tm 36, .cn (.int .i64 0)]])
 (.cond (.tm 37) (.seq (.region [u1 38 .mov [.tm 6],
 u1 4 .mov [.cn .nil],
 u1 5 .mov [.tm 38]])
 .ret)
  .skip))
 (.seq (.region [u1 39 (.make 1 4 [(.int .u32 0)]) [.cn (.int .i64 512), .cn (.int .i64 512)],
 u1 7 .mov [.tm 39]])
 (.seq (.seq (.region [u1 8 .mov [.cn (.int .i64 0)]])
 (.block 0 (.loop (.seq (.seq (.region [u1 40 .mov [.tm 8],
 u1 41 .mov [.tm 0],
 u1 42 (.call 95) [.tm 41],
 u1 43 (.cmp .lss) [.tm 40, .tm 42]])
 (.cond (.tm 43) .skip
  (.exit 0)))
 (.seq (.block 1 (.seq (.region [u1 46 .mov [.tm 8],
 u1 47 .mov [.tm 1],
 u1 48 (.ari .add) [.tm 46, .tm 47],
 u1 49 (.cmp .geq) [.tm 48, .cn (.int .i64 0)]])
 (.cond (.tm 49) (.draw [] [w1 50 .mov [.tm 7],
 w1 51 .mov [.tm 8],
 w1 52 .mov [.tm 1],
 w1 53 (.ari .add) [.tm 51, .tm 52],
 w1 54 .quo [.tm 53, .cn (.int .i64 32)],
 w1 55 .mov [.tm 7],
 w1 56 .mov [.tm 8],
 w1 57 .mov [.tm 1],
 w1 58 (.ari .add) [.tm 56, .tm 57],
 w1 59 .quo [.tm 58, .cn (.int .i64 32)],
 w1 60 (.idxAddr 1) [.tm 55, .tm 59],
 w1 61 (.load false 1) [.tm 60],
 w1 62 .mov [.tm 0],
 w1 63 .mov [.tm 8],
 w1 65 .mov [.tm 8],
 w1 66 .mov [.tm 1],
 w1 67 (.ari .add) [.tm 65, .tm 66],
 w1 68 .rem [.tm 67, .cn (.int .i64 32)],
 w1 64 (.call 110) [.tm 62, .tm 63],
 w1 69 .shl [.tm 64, .tm 68],
 w1 70 (.bit .or) [.tm 61, .tm 69],
 w1 71 (.idxAddr 1) [.tm 50, .tm 54],
 w0 (.store 1) [.tm 71, .tm 70]])
  .skip)))
 (.region [u1 44 .mov [.tm 8],
 u1 45 (.ari .add) [.tm 44, .cn (.int .i64 1)],
 u1 8 .mov [.tm 45]]))))))
 (.seq (.region [u1 72 .mov [.tm 7],
 u1 73 (.call 99) [.tm 72],
 u1 4 .mov [.tm 73],
 u1 5 .mov [.cn (.int .i64 0)]])
 .ret)))))))) }
theorem v96_is : vfunc Tryz.prog Tryz.f96 = some v96 := by kernel_rfl


/-- A number times a power of two. -/
def shiftC : Ctr := { alias := false, of := fun l => match l with
  | [.vs _ z n sz get, .int .i64 k] => .ex Nat fun a => .ex Nat fun i => .pre (padP a n sz get ∧ n = nl a ∧ nl a ≤ 512 ∧ k = (i : Int) ∧ bitsN a + i ≤ 16384) (.fin (.tup [natS false (a * 2 ^ i), .int .i64 0]) [])
  | _ => noC }
def T3 : Env := { ct := fun n => match n with | 94 => some badnC | 95 => some sizeC | 110 => some bitC | 99 => some trimC | _ => none, fn := fun _ => none, meth := fun _ _ => none }
theorem T3_ct94 : T3.ct 94 = some badnC := rfl
theorem T3_ct95 : T3.ct 95 = some sizeC := rfl
theorem T3_ct110 : T3.ct 110 = some bitC := rfl
theorem T3_ct99 : T3.ct 99 = some trimC := rfl
theorem T3_ok : EnvOk Tryz.prog T3 := by
  refine ⟨fun f c h => ?_, fun f vf h => ?_, (fun _ _ _ h => by cases h), by kernel_rfl⟩
  · simp only [T3] at h
    split at h
    · cases h; exact ⟨bad_ok, Tryz.f94, Tryz.func94, by kernel_rfl, by kernel_rfl⟩
    · cases h; exact ⟨size_ok, Tryz.f95, Tryz.func95, by kernel_rfl, by kernel_rfl⟩
    · cases h; exact ⟨bit_ok, Tryz.f110, Tryz.func110, by kernel_rfl, by kernel_rfl⟩
    · cases h; exact ⟨trim_ok, Tryz.f99, Tryz.func99, by kernel_rfl, by kernel_rfl⟩
    · cases h
  · cases h


theorem setbit' {q i : Nat} (hb : bitN q i = 0) : dig q (i / 32) / 2 ^ (i % 32) % 2 = 0 ∧ setD q (i / 32) (dig q (i / 32) + 2 ^ (i % 32)) = q + 2 ^ i ∧ dig q (i / 32) + 2 ^ (i % 32) < 4294967296 := by
  have h1 : dig q (i / 32) / 2 ^ (i % 32) % 2 = 0 := by rw [← bitN_dig]; exact hb
  refine ⟨h1, ?_, ?_⟩
  · have e := setD_add q (i / 32) (dig q (i / 32) + 2 ^ (i % 32))
    have e2 : 2 ^ i = 2 ^ (i % 32) * 4294967296 ^ (i / 32) := by
      rw [pw_two, ← Nat.pow_add]; congr 1; omega
    rw [e2]
    rw [Nat.add_mul] at e
    omega
  · rw [← or_add h1]
    exact Nat.or_lt_two_pow (n := 32) (dig_lt _ _) (Nat.pow_lt_pow_right (by decide) (Nat.mod_lt _ (by decide)))
theorem mod_bit (a j : Nat) : a % 2 ^ (j + 1) = a % 2 ^ j + bitN a j * 2 ^ j := by
  unfold bitN
  rw [Nat.pow_succ, Nat.mod_mul, Nat.mul_comm (2 ^ j) (a / 2 ^ j % 2)]
theorem shift_bit {a i j : Nat} : bitN (a % 2 ^ j * 2 ^ i) (j + i) = 0 := by
  unfold bitN
  have h := Nat.mod_lt a (p2_pos j)
  have : a % 2 ^ j * 2 ^ i < 2 ^ (j + i) := by rw [Nat.pow_add]; exact Nat.mul_lt_mul_of_pos_right h (p2_pos i)
  rw [Nat.div_eq_of_lt this]

theorem shift_pad {a i n : Nat} (hn : n ≤ 100000) (h : bitsN a + i ≤ 32 * n) : padP (a * 2 ^ i) n 1 (fun k => [.int .u32 (dig (a * 2 ^ i) k)]) := by
  refine padP_self hn ?_
  rw [pw_two]
  exact Nat.lt_of_lt_of_le (Nat.mul_lt_mul_of_pos_right (bitsN_lt a) (p2_pos i)) (by rw [← Nat.pow_add]; exact Nat.pow_le_pow_right (by decide) h)
theorem shift_ok : shiftC.ok Tryz.prog 96 := by
  refine contract Tryz.func96 v96_is T3_ok 300 shiftC fun args k h => ?_
  simp only [shiftC] at h
  split at h
  · rename_i t1 z1 n sz get k'
    obtain ⟨a, i, ⟨⟨rfl, hn, ha, hg⟩, rfl, hn5, rfl, hbits⟩, h⟩ := h
    refine ⟨[.vs t1 z1 (nl a) 1 (fun k => [.int .u32 (dig a k)]), .int .i64 i], ⟨by simpa [le] using hg, ⟨rfl, rfl⟩, trivial⟩, ?_⟩
    dsimp only [v96, T3_ct94, T3_ct95, badnC, sizeC, natS, r_end, r_end1, r_nil, r_op, r_opg, r_runOp, r_op0, r_yld0, r_yld1, r_y, r_rbeg, r_rend, r_rend1, r_rfrm, r_rfrm1, r_range, r_rangeK, r_rangeE, r_draw, r_drawT, r_tleaf, r_tops, r_tbr, s_chkF, s_chkT, r_dnil, r_dop, r_dopg, r_dplq, r_dplh, r_dq, r_dq0, r_dcl1, r_dcl0, r_dct1, r_dct0, r_dgd, r_dgq1, r_dgq0, r_dctG, r_op1, r_eff, r_eff0, r_call, r_call0, r_inl, r_g, r_gq, r_gc, r_effg, r_effg0, r_callg, r_callg0, r_fin, r_pre, r_imp, r_all, r_ex, r_fing, r_preg, r_exg, r_inBlock, r_inLoop, r_frame, r_frame1, r_skip, r_stuck, r_region, r_seq, r_cond, r_cond1, r_block, r_exit, r_exit1, r_exit2, r_ret, r_loop, s_args0, s_args1, s_xt, s_xc, u0, u1, u2, w0, w1, noOwn, noOwnL, padL, blankL, callee, calleeM, callArgs, eff, ctOf, ctM, ctI, getL, setL, S.put, S.upd, unopts, unopt, unoptsO, unoptsB, lazyO, guardOf, gbool, eMov, eNot, eNeg, eConv, eExt, eLenArr, eLen, eLenStr, eEqb, eEqv, allEq, eNil, negIf, eBool2, eCmp, eAri, ari, eBit, eDiv, eSh, eMinMax, foldMin, foldMax, kEq, pure1, cmpB, VO.quiet, resVals, resVal, tupled, popRet, popTo, cond, Option.bind, Option.map, eNew, eBox, asCells, lenH, snocH, eFieldAddr, eField, eLoad, cellsAt, getH, setH, dropL, takeL, mkAgg, lenL, lenS, shift, shiftL, shiftH, viewN, viewL, view, andT, junks, List.append_nil, Nat.beq, eIdxAddr, eIdxArr, idxN_0, idxN_1, idxN_2, idxN_3, eIndex, eStore, storeAt, spliceL, ones, one, eSlice, eSliceArr, bounds, subLo_z, addLo_z, subLo_one, addLo_one, eMake, eAppend, readS, repL, buildCells, chunk, purgeL, purgeLL, purgeH, purge, refs, refsL, List.cons_append, List.nil_append, wrOps, wrAl, wrDops, wrC, junkAt, putAll, putHs, headOf, headK, keepG, List.append_eq, headX, VO.isAppend, chkG, chkA, napP, napB, there, wrDtr, chkP, apartP, apartB, blk, strip, runAl, AL.ho, yld, putPs, lenN, findR, notRound, jumpK, jumpPT, jcode, List.map_cons, List.map_nil, ite_self, reduceIte]
    simp only [true_and, and_true, imp_self, implies_true, decide_eq_true_eq, decide_eq_false_iff_not, Nat.reduceAdd, Nat.reduceLeDiff, Bool.not_not, reduceCtorEq, false_imp_iff, Bool.not_eq_true', Bool.not_eq_false', Bool.false_eq_true, and_self, forall_const, ne_eq, not_false_eq_true, Nat.reduceEqDiff]
    have h : k (.tup [natS false (a * 2 ^ i), .int .i64 0]) [] := h
    have hbw : IntKind.i64.wrap ((bitsN a : Int) + (i : Int)) = ((bitsN a + i : Nat) : Int) := by rw [IntWalk.i64_in _ (by omega)]; omega
    refine ⟨by decide, [(z1, a)], ⟨⟨rfl, rfl, fun k hk => match k, hk with | 0, _ => leXL_self _⟩, by simp, by simp; exact hn5⟩, fun hb => by simp [hb], fun hb => ?_, fun hb => ⟨a, fun _ => ⟨padP_nl (by omega), rfl⟩, ?_⟩⟩
    · exfalso; simp at hb; omega
    · simp only [hbw]
      refine ⟨fun hb2 => ?_, fun hb2 => ?_⟩
      · exfalso; simp at hb2; omega
      · refine ⟨fun h => absurd trivial h, ⟨by decide, by decide, by decide, by unfold capOk; decide⟩, ?_⟩
        refine Loop.keep [0, 0, 5, 0] Nat (fun j => [(8, .int .i64 j)]) (fun j => [(1, .own false 1 512 (fun k => [.int .u32 (dig (a % 2 ^ j * 2 ^ i) k)]))]) [] (fun j => j ≤ bitsN a) (fun j => bitsN a - j) ?_ ?_
        · refine ⟨0, Nat.zero_le _, ?_⟩
          dsimp only [r_end, r_end1, r_nil, r_op, r_opg, r_runOp, r_op0, r_yld0, r_yld1, r_y, r_rbeg, r_rend, r_rend1, r_rfrm, r_rfrm1, r_range, r_rangeK, r_rangeE, r_draw, r_drawT, r_tleaf, r_tops, r_tbr, s_chkF, s_chkT, r_dnil, r_dop, r_dopg, r_dplq, r_dplh, r_dq, r_dq0, r_dcl1, r_dcl0, r_dct1, r_dct0, r_dgd, r_dgq1, r_dgq0, r_dctG, r_op1, r_eff, r_eff0, r_call, r_call0, r_inl, r_g, r_gq, r_gc, r_effg, r_effg0, r_callg, r_callg0, r_fin, r_pre, r_imp, r_all, r_ex, r_fing, r_preg, r_exg, r_inBlock, r_inLoop, r_frame, r_frame1, r_skip, r_stuck, r_region, r_seq, r_cond, r_cond1, r_block, r_exit, r_exit1, r_exit2, r_ret, r_loop, s_args0, s_args1, s_xt, s_xc, u0, u1, u2, w0, w1, noOwn, noOwnL, padL, blankL, callee, calleeM, callArgs, eff, ctOf, ctM, ctI, getL, setL, S.put, S.upd, unopts, unopt, unoptsO, unoptsB, lazyO, guardOf, gbool, eMov, eNot, eNeg, eConv, eExt, eLenArr, eLen, eLenStr, eEqb, eEqv, allEq, eNil, negIf, eBool2, eCmp, eAri, ari, eBit, eDiv, eSh, eMinMax, foldMin, foldMax, kEq, pure1, cmpB, VO.quiet, resVals, resVal, tupled, popRet, popTo, cond, Option.bind, Option.map, eNew, eBox, asCells, lenH, snocH, eFieldAddr, eField, eLoad, cellsAt, getH, setH, dropL, takeL, mkAgg, lenL, lenS, shift, shiftL, shiftH, viewN, viewL, view, andT, junks, List.append_nil, Nat.beq, eIdxAddr, eIdxArr, idxN_0, idxN_1, idxN_2, idxN_3, eIndex, eStore, storeAt, spliceL, ones, one, eSlice, eSliceArr, bounds, subLo_z, addLo_z, subLo_one, addLo_one, eMake, eAppend, readS, repL, buildCells, chunk, purgeL, purgeLL, purgeH, purge, refs, refsL, List.cons_append, List.nil_append, wrOps, wrAl, wrDops, wrC, junkAt, putAll, putHs, headOf, headK, keepG, List.append_eq, headX, VO.isAppend, chkG, chkA, napP, napB, there, wrDtr, chkP, apartP, apartB, blk, strip, runAl, AL.ho, yld, putPs, lenN, findR, notRound, jumpK, jumpPT, jcode, List.map_cons, List.map_nil, ite_self, reduceIte]
          simp only [leS_mk, leL_cons, leL_nil, le_junk, le_int, le_bool, le_nil, leLL_nil, leLL_cons, leH_cons, leH_nil, leH1_box, leH1_own, leH1_gone, le_vs, le_agg, le_tup, le_ptr, le_own, le_xp, le_fn, le_opt, le_val, le_elem, le_nil_own, le_nil_vs, leH_ghost, leL_chunk, leXL_id, bnd_int, bnd_bool, bnd_val, bnd_nil, bnd_junk, bnd_vs, bnd_xp, bnd_agg, bnd_tup, bnd_ptr, bnd_own, bnd_elem, bnd_fn, bnd_iface, bnd_opt, bndL_nil, bndL_cons, lenH_cons, lenH_nil, imp_self, implies_true, true_and, and_true]
          simp [Nat.mod_one, dig_zero, leL, le]
        · rintro j hj
          dsimp only [T3_ct95, T3_ct110, T3_ct99, sizeC, bitC, trimC, natS, bitI, Int.toNat_natCast, r_end, r_end1, r_nil, r_op, r_opg, r_runOp, r_op0, r_yld0, r_yld1, r_y, r_rbeg, r_rend, r_rend1, r_rfrm, r_rfrm1, r_range, r_rangeK, r_rangeE, r_draw, r_drawT, r_tleaf, r_tops, r_tbr, s_chkF, s_chkT, r_dnil, r_dop, r_dopg, r_dplq, r_dplh, r_dq, r_dq0, r_dcl1, r_dcl0, r_dct1, r_dct0, r_dgd, r_dgq1, r_dgq0, r_dctG, r_op1, r_eff, r_eff0, r_call, r_call0, r_inl, r_g, r_gq, r_gc, r_effg, r_effg0, r_callg, r_callg0, r_fin, r_pre, r_imp, r_all, r_ex, r_fing, r_preg, r_exg, r_inBlock, r_inLoop, r_frame, r_frame1, r_skip, r_stuck, r_region, r_seq, r_cond, r_cond1, r_block, r_exit, r_exit1, r_exit2, r_ret, r_loop, s_args0, s_args1, s_xt, s_xc, u0, u1, u2, w0, w1, noOwn, noOwnL, padL, blankL, callee, calleeM, callArgs, eff, ctOf, ctM, ctI, getL, setL, S.put, S.upd, unopts, unopt, unoptsO, unoptsB, lazyO, guardOf, gbool, eMov, eNot, eNeg, eConv, eExt, eLenArr, eLen, eLenStr, eEqb, eEqv, allEq, eNil, negIf, eBool2, eCmp, eAri, ari, eBit, eDiv, eSh, eMinMax, foldMin, foldMax, kEq, pure1, cmpB, VO.quiet, resVals, resVal, tupled, popRet, popTo, cond, Option.bind, Option.map, eNew, eBox, asCells, lenH, snocH, eFieldAddr, eField, eLoad, cellsAt, getH, setH, dropL, takeL, mkAgg, lenL, lenS, shift, shiftL, shiftH, viewN, viewL, view, andT, junks, List.append_nil, Nat.beq, eIdxAddr, eIdxArr, idxN_0, idxN_1, idxN_2, idxN_3, eIndex, eStore, storeAt, spliceL, ones, one, eSlice, eSliceArr, bounds, subLo_z, addLo_z, subLo_one, addLo_one, eMake, eAppend, readS, repL, buildCells, chunk, purgeL, purgeLL, purgeH, purge, refs, refsL, List.cons_append, List.nil_append, wrOps, wrAl, wrDops, wrC, junkAt, putAll, putHs, headOf, headK, keepG, List.append_eq, headX, VO.isAppend, chkG, chkA, napP, napB, there, wrDtr, chkP, apartP, apartB, blk, strip, runAl, AL.ho, yld, putPs, lenN, findR, notRound, jumpK, jumpPT, jcode, List.map_cons, List.map_nil, ite_self, reduceIte]
          simp only [true_and, and_true, imp_self, implies_true, decide_eq_true_eq, decide_eq_false_iff_not, Nat.reduceAdd, Nat.reduceLeDiff, Bool.not_not, reduceCtorEq, false_imp_iff, Bool.not_eq_true', Bool.not_eq_false', Bool.false_eq_true, and_self, forall_const, ne_eq, not_false_eq_true, Nat.reduceEqDiff]
          have e0 : IntKind.i64.wrap ((j : Int) + (i : Int)) = ((j + i : Nat) : Int) := by rw [IntWalk.i64_in _ (by omega)]; omega
          have e1 : IntKind.i64.wrap (((j + i : Nat) : Int).tdiv 32) = (((j + i) / 32 : Nat) : Int) := by
            have : ((j + i : Nat) : Int).tdiv 32 = (((j + i) / 32 : Nat) : Int) := IntWalk.up_tdiv (y := 32) rfl rfl
            rw [this, IntWalk.i64_in _ (by omega)]
          have e2 : ((j + i : Nat) : Int).tmod 32 = (((j + i) % 32 : Nat) : Int) := IntWalk.up_tmod (y := 32) rfl rfl
          simp only [e0, e1, e2, Int.toNat_natCast, show Int.toNat 512 = 512 from rfl]
          have hbl := bitsN_nl a
          refine ⟨a, ⟨padP_nl (by omega), rfl⟩, fun hlt => ?_, fun hge => ?_⟩
          · refine ⟨fun _ => ⟨by decide, by decide, ⟨by omega, by omega⟩, by omega, by decide, a, ⟨padP_nl (by omega), by omega, by omega⟩, by omega, ⟨by omega, by omega⟩, by omega, j + 1, by omega, by omega, ?_⟩, fun hneg => by exfalso; omega⟩
            have hm32 : (j + i) % 32 < 32 := Nat.mod_lt _ (by decide)
            have e4 : min ((j + i) % 32) IntKind.u32.bits = (j + i) % 32 := by show min ((j + i) % 32) 32 = _; omega
            rw [e4, IntWalk.i64_in ((j : Int) + 1) (by omega), mod_bit a j]
            have hq0 := shift_bit (a := a) (i := i) (j := j)
            obtain ⟨s1, s2, s3⟩ := setbit' hq0
            have hb2 := bitN_lt a j
            have hcell : ∀ K, (if K = (j + i) / 32 then [SV.int IntKind.u32 (IntKind.u32.wrap ↑(BitVec.ofInt IntKind.u32.bits ↑(dig (a % 2 ^ j * 2 ^ i) ((j + i) / 32)) ||| BitVec.ofInt IntKind.u32.bits (IntKind.u32.wrap (↑(bitN a j) * 2 ^ ((j + i) % 32)))).toNat)] else [SV.int IntKind.u32 ↑(dig (a % 2 ^ j * 2 ^ i) K)]) = [SV.int IntKind.u32 ↑(dig ((a % 2 ^ j + bitN a j * 2 ^ j) * 2 ^ i) K)] := by
              intro K
              rcases Nat.lt_or_ge (bitN a j) 1 with h0 | h0
              · have h0 : bitN a j = 0 := by omega
                rw [h0, show ((0 : Nat) : Int) * 2 ^ ((j + i) % 32) = ((0 : Nat) : Int) by simp, u3_nat (x := 0) (by decide), show IntKind.u32.bits = 32 from rfl, or_nat (dig_lt _ _) (by decide)]
                simp
                intro hh; rw [hh]
              · have h0 : bitN a j = 1 := by omega
                have e5 : ((1 : Nat) : Int) * 2 ^ ((j + i) % 32) = ((2 ^ ((j + i) % 32) : Nat) : Int) := by simp
                rw [h0, e5, u3_nat (x := 2 ^ ((j + i) % 32)) (Nat.pow_lt_pow_right (by decide) hm32), show IntKind.u32.bits = 32 from rfl, or_nat (dig_lt _ _) (Nat.pow_lt_pow_right (by decide) hm32), or_add s1]
                have e6 : (a % 2 ^ j + 1 * 2 ^ j) * 2 ^ i = a % 2 ^ j * 2 ^ i + 2 ^ (j + i) := by rw [Nat.one_mul, Nat.add_mul, Nat.pow_add]
                rw [e6, ← s2, dig_setD s3]
                split <;> rfl
            simp only [hcell, leS_mk, leL_cons, leL_nil, le_junk, le_int, le_bool, le_nil, leLL_nil, leLL_cons, leH_cons, leH_nil, leH1_box, leH1_own, leH1_gone, le_vs, le_agg, le_tup, le_ptr, le_own, le_xp, le_fn, le_opt, le_val, le_elem, le_nil_own, le_nil_vs, leH_ghost, leL_chunk, leXL_id, bnd_int, bnd_bool, bnd_val, bnd_nil, bnd_junk, bnd_vs, bnd_xp, bnd_agg, bnd_tup, bnd_ptr, bnd_own, bnd_elem, bnd_fn, bnd_iface, bnd_opt, bndL_nil, bndL_cons, lenH_cons, lenH_nil, imp_self, implies_true, true_and, and_true]
            omega
          · obtain rfl : j = bitsN a := by omega
            rw [Nat.mod_eq_of_lt (bitsN_lt a)]
            exact ⟨a * 2 ^ i, shift_pad (by decide) hbits, ans_ni h⟩
  · exact h.1.elim
end Go.Proofs.YtngccjllkgpjmaaGreat

/- Numbers, walked: Root. -/
/- Numbers, walked: Root. -/
set_option linter.all false
namespace Go.Proofs.YtngccjllkgpjmaaGreat
open Go Go.Vx
set_option maxRecDepth 100000
set_option maxHeartbeats 4000000

end Go.Proofs.YtngccjllkgpjmaaGreat

/- Intervals, walked: the reference's Root. -/
/- Intervals, walked: the reference's Root. -/
set_option linter.all false
namespace Go.Proofs.YtngccjllkgpjmaaGreat
open Go Go.Vx
set_option maxRecDepth 100000
set_option maxHeartbeats 4000000

end Go.Proofs.YtngccjllkgpjmaaGreat

/- Chests, walked: the reference's exported functions; the law of sizes. -/
/- Chests, walked: the reference's exported functions; the law of sizes. -/
set_option linter.all false
namespace Go.Proofs.YtngccjllkgpjmaaGreat
open Go Go.Vx
set_option maxRecDepth 100000
set_option maxHeartbeats 4000000

def v31 : VF := { ntmps := 9, res := [.tmp 2], body :=
 (.seq (.region [u1 2 .mov [.cn (.bool false)]])
 (.seq (.region [u1 3 .mov [.tm 0],
 u1 4 (.cmp .geq) [.tm 3, .cn (.int .i64 10)],
 u1 5 .mov [.tm 4],
 u2 6 5 true .mov [.tm 0],
 u2 7 5 true (.cmp .leq) [.tm 6, .cn (.int .i64 5000)],
 u1 8 .and [.tm 5, .tm 7],
 u1 2 .mov [.tm 8]])
 .ret)) }
theorem v31_is : vfunc Tryz.prog Tryz.f31 = some v31 := by kernel_rfl
def v3 : VF := { ntmps := 123, res := [.tmp 6], body :=
 (.seq (.region [u1 3 .box [.tm 0],
 u1 4 .box [.tm 1],
 u1 5 .box [.tm 2],
 u1 6 .mov [.cn (.bool false)]])
 (.seq (.seq (.region [u1 23 (.fieldAddr 0) [.tm 3],
 u1 24 (.load false 1) [.tm 23],
 u1 25 .len [.tm 24],
 u1 26 (.cmp .gtr) [.tm 25, .cn (.int .i64 30)]])
 (.cond (.tm 26) (.seq (.region [u1 27 (.call 5) [],
 u1 6 .mov [.tm 27]])
 .ret)
  .skip))
 (.seq (.region [u1 29 (.load true 1) [.tm 3],
 u1 30 (.call 6) [.tm 29],
 u1 28 .mov [.tm 30],
 u1 31 (.ext 0) [.tm 28],
 u1 32 (.ext 1) [.tm 28],
 u1 7 (.alloc [(.int .i64 0), (.int .i64 0)]) [],
 u0 (.store 2) [.tm 7, .tm 31],
 u1 8 .mov [.tm 32]])
 (.seq (.region [u1 34 (.load true 1) [.tm 3],
 u1 35 (.call 7) [.tm 34],
 u1 33 .mov [.tm 35],
 u1 36 (.ext 0) [.tm 33],
 u1 37 (.ext 1) [.tm 33],
 u1 9 (.alloc [(.int .i64 0), (.int .i64 0)]) [],
 u0 (.store 2) [.tm 9, .tm 36],
 u1 10 .mov [.tm 37]])
 (.seq (.region [u1 39 (.load true 4) [.tm 4],
 u1 40 (.call 8) [.tm 39],
 u1 38 .mov [.tm 40],
 u1 41 (.ext 0) [.tm 38],
 u1 42 (.ext 1) [.tm 38],
 u1 11 .mov [.tm 41],
 u1 12 .mov [.tm 42]])
 (.seq (.region [u1 44 (.load true 4) [.tm 4],
 u1 45 (.call 9) [.tm 44],
 u1 43 .mov [.tm 45],
 u1 46 (.ext 0) [.tm 43],
 u1 47 (.ext 1) [.tm 43],
 u1 13 .mov [.tm 46],
 u1 14 .mov [.tm 47]])
 (.seq (.region [u1 49 (.load true 4) [.tm 4],
 u1 50 (.fieldAddr 4) [.tm 5],
 u1 51 (.load false 1) [.tm 50],
 u1 52 (.call 10) [.tm 49, .tm 51],
 u1 48 .mov [.tm 52],
 u1 53 (.ext 0) [.tm 48],
 u1 54 (.ext 1) [.tm 48],
 u1 15 (.alloc [(.int .i64 0), (.int .i64 0)]) [],
 u0 (.store 2) [.tm 15, .tm 53],
 u1 16 .mov [.tm 54]])
 (.seq (.region [u1 56 (.load true 4) [.tm 4],
 u1 57 (.fieldAddr 4) [.tm 5],
 u1 58 (.load false 1) [.tm 57],
 u1 59 (.call 11) [.tm 56, .tm 58],
 u1 55 .mov [.tm 59],
 u1 60 (.ext 0) [.tm 55],
 u1 61 (.ext 1) [.tm 55],
 u1 17 (.alloc [(.int .i64 0), (.int .i64 0)]) [],
 u0 (.store 2) [.tm 17, .tm 60],
 u1 18 .mov [.tm 61]])
 (.seq (.region [u1 63 (.fieldAddr 0) [.tm 5],
 u1 64 (.load true 2) [.tm 63],
 u1 65 (.fieldAddr 2) [.tm 5],
 u1 66 (.load false 1) [.tm 65],
 u1 67 (.fieldAddr 3) [.tm 5],
 u1 68 (.load false 1) [.tm 67],
 u1 69 (.call 12) [.tm 64, .tm 66, .tm 68],
 u1 62 .mov [.tm 69],
 u1 70 (.ext 0) [.tm 62],
 u1 71 (.ext 1) [.tm 62],
 u1 19 (.alloc [(.int .i64 0), (.int .i64 0)]) [],
 u0 (.store 2) [.tm 19, .tm 70],
 u1 20 .mov [.tm 71]])
 (.seq (.region [u1 73 (.fieldAddr 0) [.tm 5],
 u1 74 (.load true 2) [.tm 73],
 u1 75 (.fieldAddr 2) [.tm 5],
 u1 76 (.load false 1) [.tm 75],
 u1 77 (.fieldAddr 3) [.tm 5],
 u1 78 (.load false 1) [.tm 77],
 u1 79 (.call 13) [.tm 74, .tm 76, .tm 78],
 u1 72 .mov [.tm 79],
 u1 80 (.ext 0) [.tm 72],
 u1 81 (.ext 1) [.tm 72],
 u1 21 (.alloc [(.int .i64 0), (.int .i64 0)]) [],
 u0 (.store 2) [.tm 21, .tm 80],
 u1 22 .mov [.tm 81]])
 (.seq (.region [u1 82 (.load true 2) [.tm 7],
 u1 83 (.load true 2) [.tm 9],
 u1 84 (.eqv false [true, true]) [.tm 82, .tm 83],
 u1 85 .mov [.tm 84],
 u2 86 85 true .mov [.tm 8],
 u2 87 85 true .mov [.tm 10],
 u2 88 85 true (.cmp .eql) [.tm 86, .tm 87],
 u1 89 .and [.tm 85, .tm 88],
 u1 90 .mov [.tm 89],
 u2 91 90 true .mov [.tm 11],
 u2 92 90 true .mov [.tm 13],
 u2 93 90 true (.cmp .eql) [.tm 91, .tm 92],
 u1 94 .and [.tm 90, .tm 93],
 u1 95 .mov [.tm 94],
 u2 96 95 true .mov [.tm 12],
 u2 97 95 true .mov [.tm 14],
 u2 98 95 true (.cmp .eql) [.tm 96, .tm 97],
 u1 99 .and [.tm 95, .tm 98],
 u1 100 .mov [.tm 99],
 u2 101 100 true (.load true 2) [.tm 15],
 u2 102 100 true (.load true 2) [.tm 17],
 u2 103 100 true (.eqv false [true, true]) [.tm 101, .tm 102],
 u1 104 .and [.tm 100, .tm 103],
 u1 105 .mov [.tm 104],
 u2 106 105 true .mov [.tm 16],
 u2 107 105 true .mov [.tm 18],
 u2 108 105 true (.cmp .eql) [.tm 106, .tm 107],
 u1 109 .and [.tm 105, .tm 108],
 u1 110 .mov [.tm 109],
 u2 111 110 true (.load true 2) [.tm 19],
 u2 112 110 true (.load true 2) [.tm 21],
 u2 113 110 true (.eqv false [true, true]) [.tm 111, .tm 112],
 u1 114 .and [.tm 110, .tm 113],
 u1 115 .mov [.tm 114],
 u2 116 115 true .mov [.tm 20],
 u2 117 115 true .mov [.tm 22],
 u2 118 115 true (.cmp .eql) [.tm 116, .tm 117],
 u1 119 .and [.tm 115, .tm 118],
 u1 120 .mov [.tm 119],
 u2 121 120 true (.call 5) [],
 u1 122 .and [.tm 120, .tm 121],
 u1 6 .mov [.tm 122]])
 .ret))))))))))) }
def preC : Ctr := { alias := false, of := fun l => match l with
  | [.int .i64 n] => .fin (.bool (!outN n 10 5000)) []
  | _ => noC }
def BZ0 : Env := { ct := fun _ => none, fn := fun _ => none, meth := fun _ _ => none }
theorem BZ0_ok : EnvOk Tryz.prog BZ0 := by
  refine ⟨fun f c h => ?_, fun f vf h => ?_, (fun _ _ _ h => by cases h), by kernel_rfl⟩
  · cases h
  · cases h

theorem pre_ok : preC.ok Tryz.prog 31 := by
  refine contract Tryz.func31 v31_is BZ0_ok 100 preC fun args k h => ⟨args, ?_⟩
  simp only [preC] at h
  split at h
  · refine ⟨by simp [leL, le], ?_⟩
    dsimp only [v31, go_sem, Option.bind, Option.map, List.append_nil, Nat.beq, List.cons_append, List.nil_append, List.append_eq, List.map_cons, List.map_nil, ite_self, reduceIte]
    simp only [true_and, and_true, imp_self, implies_true, decide_eq_true_eq, decide_eq_false_iff_not, Nat.reduceAdd, Nat.reduceLeDiff, Bool.not_not, reduceCtorEq, false_imp_iff, Bool.not_eq_true', Bool.not_eq_false', Bool.false_eq_true, and_self, forall_const, ne_eq, not_false_eq_true, Nat.reduceEqDiff]
    have h : k _ [] := h
    rw [nout] at h
    exact ans_bool h
  · exact h.1.elim
end Go.Proofs.YtngccjllkgpjmaaGreat

/- Chests, walked: the plan of the program. -/
/- Chests, walked: the plan of the program. -/
set_option linter.all false
namespace Go.Proofs.YtngccjllkgpjmaaGreat
open Go Go.Vx
set_option maxRecDepth 100000
set_option maxHeartbeats 4000000

def v14 : VF := { ntmps := 54, res := [.tmp 6, .tmp 7], body :=
 (.seq (.region [u1 5 .box [.tm 2],
 u1 6 .mov [.cn .nil],
 u1 7 .mov [.cn (.int .i64 0)]])
 (.seq (.region [u1 12 .mov [.tm 1],
 u1 13 (.load true 3) [.tm 5],
 u1 14 (.build [.nil, (.int .i64 0), (.int .i64 0), (.int .i64 0)] [(0, 1), (1, 3)]) [.tm 12, .tm 13],
 u1 8 (.alloc [.nil, (.int .i64 0), (.int .i64 0), (.int .i64 0)]) [],
 u0 (.store 4) [.tm 8, .tm 14]])
 (.seq (.block 0 (.seq (.region [u1 16 .mov [.tm 0],
 u1 17 .len [.tm 16],
 u1 18 (.cmp .gtr) [.tm 17, .cn (.int .i64 61)],
 u1 19 .mov [.tm 18],
 u2 20 19 false .mov [.tm 1],
 u2 21 19 false .len [.tm 20],
 u2 22 19 false (.cmp .gtr) [.tm 21, .cn (.int .i64 40)],
 u1 23 .or [.tm 19, .tm 22],
 u1 24 .mov [.tm 23],
 u2 25 24 false .mov [.tm 0],
 u2 26 24 false (.call 42) [.tm 25, .cn (.fn (.func 43) [] [])],
 u1 27 .or [.tm 24, .tm 26],
 u1 15 .mov [.tm 27]])
 (.cond (.tm 15) (.seq (.region [u1 6 .mov [.cn .nil],
 u1 7 .mov [.cn (.int .i64 3)]])
 .ret)
  (.seq (.region [u1 29 (.load true 4) [.tm 8],
 u1 30 (.call 44) [.tm 29],
 u1 31 .mov [.tm 30],
 u2 32 31 false .mov [.tm 0],
 u2 33 31 false (.call 42) [.tm 32, .cn (.fn (.func 45) [] [])],
 u1 34 .or [.tm 31, .tm 33],
 u1 28 .mov [.tm 34]])
 (.cond (.tm 28) (.seq (.region [u1 6 .mov [.cn .nil],
 u1 7 .mov [.cn (.int .i64 2)]])
 .ret)
  .skip)))))
 (.seq (.region [u1 35 .mov [.tm 0],
 u1 36 .len [.tm 35],
 u1 37 (.make 1 24 [.nil]) [.tm 36, .tm 36],
 u1 9 .mov [.tm 37]])
 (.seq (.seq (.region [u1 38 .mov [.tm 0],
 u1 39 .len [.tm 38],
 u1 40 .mov [.cn (.int .i64 0)]])
 (.block 1 (.loop (.seq (.region [u1 41 (.cmp .lss) [.tm 40, .tm 39]])
 (.seq (.cond (.tm 41) .skip
  (.exit 1))
 (.seq (.block 2 (.seq (.region [u1 42 .mov [.tm 40],
 u1 43 (.idxAddr 1) [.tm 38, .tm 40],
 u1 44 (.load true 1) [.tm 43],
 u1 11 (.alloc [.nil]) [],
 u1 10 .mov [.tm 42],
 u0 (.store 1) [.tm 11, .tm 44]])
 (.draw [] [w1 45 .mov [.tm 9],
 w1 46 .mov [.tm 10],
 w1 47 (.load true 4) [.tm 8],
 w1 48 (.load true 1) [.tm 11],
 w1 49 (.call 22) [.tm 48],
 w1 50 (.call 46) [.tm 47, .tm 49],
 w1 51 (.idxAddr 1) [.tm 45, .tm 46],
 w0 (.store 1) [.tm 51, .tm 50]])))
 (.region [u1 52 (.ari .add) [.tm 40, .cn (.int .i64 1)],
 u1 40 .mov [.tm 52]])))))))
 (.seq (.region [u1 53 .mov [.tm 9],
 u1 6 .mov [.tm 53],
 u1 7 .mov [.cn (.int .i64 0)]])
 .ret)))))) }
theorem v14_is : vfunc Tryz.prog Tryz.f14 = some v14 := by kernel_rfl
def v43 : VF := { ntmps := 6, res := [.tmp 2], body :=
 (.seq (.region [u1 1 .box [.tm 0],
 u1 2 .mov [.cn (.bool false)]])
 (.seq (.region [u1 3 (.load true 1) [.tm 1],
 u1 4 (.call 21) [.tm 3],
 u1 5 (.cmp .eql) [.tm 4, .cn (.int .i64 3)],
 u1 2 .mov [.tm 5]])
 .ret)) }
theorem v43_is : vfunc Tryz.prog Tryz.f43 = some v43 := by kernel_rfl
def v45 : VF := { ntmps := 6, res := [.tmp 2], body :=
 (.seq (.region [u1 1 .box [.tm 0],
 u1 2 .mov [.cn (.bool false)]])
 (.seq (.region [u1 3 (.load true 1) [.tm 1],
 u1 4 (.call 21) [.tm 3],
 u1 5 (.cmp .neq) [.tm 4, .cn (.int .i64 0)],
 u1 2 .mov [.tm 5]])
 .ret)) }
theorem v45_is : vfunc Tryz.prog Tryz.f45 = some v45 := by kernel_rfl
def v42 : VF := { ntmps := 9, res := [.tmp 4], body :=
 (.seq (.region [u1 4 .mov [.cn (.bool false)]])
 (.seq (.region [u1 5 .mov [.tm 0],
 u1 6 .mov [.tm 1],
 u1 7 (.call 72) [.tm 5, .tm 6],
 u1 8 (.cmp .geq) [.tm 7, .cn (.int .i64 0)],
 u1 4 .mov [.tm 8]])
 .ret)) }
theorem v42_is : vfunc Tryz.prog Tryz.f42 = some v42 := by kernel_rfl
def v72 : VF := { ntmps := 19, res := [.tmp 4], body :=
 (.seq (.region [u1 4 .mov [.cn (.int .i64 0)]])
 (.seq (.seq (.region [u1 6 .mov [.tm 0],
 u1 7 .len [.tm 6],
 u1 8 .mov [.cn (.int .i64 0)]])
 (.block 0 (.loop (.seq (.region [u1 9 (.cmp .lss) [.tm 8, .tm 7]])
 (.seq (.cond (.tm 9) .skip
  (.exit 0))
 (.seq (.block 1 (.seq (.region [u1 10 .mov [.tm 8],
 u1 5 .mov [.tm 10]])
 (.seq (.region [u1 11 .mov [.tm 1],
 u1 12 .mov [.tm 0],
 u1 13 .mov [.tm 5],
 u1 14 (.idxAddr 1) [.tm 12, .tm 13],
 u1 15 (.load true 1) [.tm 14],
 u1 16 .callv [.tm 11, .tm 15]])
 (.cond (.tm 16) (.seq (.region [u1 17 .mov [.tm 5],
 u1 4 .mov [.tm 17]])
 .ret)
  .skip))))
 (.region [u1 18 (.ari .add) [.tm 8, .cn (.int .i64 1)],
 u1 8 .mov [.tm 18]])))))))
 (.seq (.region [u1 4 .mov [.cn (.int .i64 (-1))]])
 .ret))) }
theorem v72_is : vfunc Tryz.prog Tryz.f72 = some v72 := by kernel_rfl


abbrev Chn := Bool × List Iv
def encC (q : Chn) : List SV := [.vs false q.1 q.2.length 2 (fun k => enc2 (q.2.getD k default))]
def isF (m : Bool) (q : Chn) : Bool := if m then decide (chkT q.2 = 3) else !decide (chkT q.2 = 0)
def isC' (m : Bool) : Ctr := { alias := false, of := fun l => match l with
  | [.agg [.vs _ _ n sz get]] => .ex Chn fun q => .pre (lsP 2 enc2 n sz get q.2 ∧ q.2.length ≤ 1000000000000) (.fin (.bool (isF m q)) [])
  | _ => noC }
def isCt : Ctr := isC' true
def isCf : Ctr := isC' false
def PA0 : Env := { ct := fun n => match n with | 21 => some chkC | _ => none, fn := fun _ => none, meth := fun _ _ => none }
theorem PA0_ct21 : PA0.ct 21 = some chkC := rfl
theorem PA0_ok : EnvOk Tryz.prog PA0 := by
  refine ⟨fun f c h => ?_, fun f vf h => ?_, (fun _ _ _ h => by cases h), by kernel_rfl⟩
  · simp only [PA0] at h
    split at h
    · cases h; exact ⟨chk_ok, Tryz.f21, Tryz.func21, by kernel_rfl, by kernel_rfl⟩
    · cases h
  · cases h

theorem is1_ok : isCt.ok Tryz.prog 43 := by
  refine contract Tryz.func43 v43_is PA0_ok 100 isCt fun args k h => ?_
  simp only [isCt, isCf, isC'] at h
  split at h
  · rename_i t z n sz get
    obtain ⟨q, ⟨⟨rfl, rfl, hg⟩, hl⟩, h⟩ := h
    refine ⟨[.agg [.vs t z q.2.length 2 (fun k => enc2 (q.2.getD k default))]], ⟨by simpa [le, leL] using hg, trivial⟩, ?_⟩
    dsimp only [v43, PA0_ct21, chkC, enc2, go_sem, Option.bind, Option.map, List.append_nil, Nat.beq, List.cons_append, List.nil_append, List.append_eq, List.map_cons, List.map_nil, ite_self, reduceIte]
    simp only [true_and, and_true, imp_self, implies_true, decide_eq_true_eq, decide_eq_false_iff_not, Nat.reduceAdd, Nat.reduceLeDiff, Bool.not_not, reduceCtorEq, false_imp_iff, Bool.not_eq_true', Bool.not_eq_false', Bool.false_eq_true, and_self, forall_const, ne_eq, not_false_eq_true, Nat.reduceEqDiff]
    exact ⟨q.2, ⟨lsP_self, hl⟩, ans_bool h⟩
  · exact h.1.elim
theorem is2_ok : isCf.ok Tryz.prog 45 := by
  refine contract Tryz.func45 v45_is PA0_ok 100 isCf fun args k h => ?_
  simp only [isCt, isCf, isC'] at h
  split at h
  · rename_i t z n sz get
    obtain ⟨q, ⟨⟨rfl, rfl, hg⟩, hl⟩, h⟩ := h
    refine ⟨[.agg [.vs t z q.2.length 2 (fun k => enc2 (q.2.getD k default))]], ⟨by simpa [le, leL] using hg, trivial⟩, ?_⟩
    dsimp only [v45, PA0_ct21, chkC, enc2, go_sem, Option.bind, Option.map, List.append_nil, Nat.beq, List.cons_append, List.nil_append, List.append_eq, List.map_cons, List.map_nil, ite_self, reduceIte]
    simp only [true_and, and_true, imp_self, implies_true, decide_eq_true_eq, decide_eq_false_iff_not, Nat.reduceAdd, Nat.reduceLeDiff, Bool.not_not, reduceCtorEq, false_imp_iff, Bool.not_eq_true', Bool.not_eq_false', Bool.false_eq_true, and_self, forall_const, ne_eq, not_false_eq_true, Nat.reduceEqDiff]
    exact ⟨q.2, ⟨lsP_self, hl⟩, ans_bool h⟩
  · exact h.1.elim

def predC (g : Nat) (cap : List SV) (F : Chn → Bool) : Prop := cap = [] ∧ ((g = 43 ∧ F = isF true) ∨ (g = 45 ∧ F = isF false))
def anyCC : Ctr := { alias := false, of := fun l => match l with
  | [.vs _ _ n sz get, .fn (.func g) [] cap] => .ex (List Chn) fun l => .ex (Chn → Bool) fun F => .pre (lsP 1 encC n sz get l ∧ l.length ≤ 1000000000000 ∧ (∀ q ∈ l, q.2.length ≤ 1000000000000) ∧ predC g cap F) (.fin (.bool (l.any F)) [])
  | _ => noC }
def PA1 : Env := { ct := fun n => match n with | 43 => some isCt | 45 => some isCf | _ => none, fn := fun n => match n with | 72 => some v72 | _ => none, meth := fun _ _ => none }
theorem PA1_ct43 : PA1.ct 43 = some isCt := rfl
theorem PA1_ct45 : PA1.ct 45 = some isCf := rfl
theorem PA1_ct72 : PA1.ct 72 = none := rfl
theorem PA1_fn72 : PA1.fn 72 = some v72 := rfl
theorem PA1_ok : EnvOk Tryz.prog PA1 := by
  refine ⟨fun f c h => ?_, fun f vf h => ?_, (fun _ _ _ h => by cases h), by kernel_rfl⟩
  · simp only [PA1] at h
    split at h
    · cases h; exact ⟨is1_ok, Tryz.f43, Tryz.func43, by kernel_rfl, by kernel_rfl⟩
    · cases h; exact ⟨is2_ok, Tryz.f45, Tryz.func45, by kernel_rfl, by kernel_rfl⟩
    · cases h
  · simp only [PA1] at h
    split at h
    · cases h; exact ⟨Tryz.f72, Tryz.func72, v72_is, Tryz.f72, Tryz.func72, by kernel_rfl, by kernel_rfl⟩
    · cases h

theorem anyC_ok : anyCC.ok Tryz.prog 42 := by
  refine contract Tryz.func42 v42_is PA1_ok 100 anyCC fun args k h => ?_
  simp only [anyCC] at h
  split at h
  · rename_i t z n sz get g cap
    obtain ⟨l, F, ⟨⟨rfl, rfl, hg⟩, hl, hin, rfl, hp⟩, h⟩ := h
    have h : k (.bool (l.any F)) [] := h
    rcases hp with ⟨rfl, hF⟩ | ⟨rfl, hF⟩
    · refine ⟨[.vs t z l.length 1 (fun k => encC (l.getD k default)), .fn (.func 43) [] []], ⟨by simpa [le] using hg, by simp [le_fn, bndL], trivial⟩, ?_⟩
      dsimp only [v42, v72, PA1_ct72, PA1_fn72, encC, go_sem, Option.bind, Option.map, List.append_nil, Nat.beq, List.cons_append, List.nil_append, List.append_eq, List.map_cons, List.map_nil, ite_self, reduceIte]
      simp only [true_and, and_true, imp_self, implies_true, decide_eq_true_eq, decide_eq_false_iff_not, Nat.reduceAdd, Nat.reduceLeDiff, Bool.not_not, reduceCtorEq, false_imp_iff, Bool.not_eq_true', Bool.not_eq_false', Bool.false_eq_true, and_self, forall_const, ne_eq, not_false_eq_true, Nat.reduceEqDiff]
      refine Loop.keep [0, 0, 5, 0] Nat (fun i => [(8, .int .i64 i)]) (fun _ => []) [] (fun i => i ≤ l.length ∧ ∀ j, j < i → F (l.getD j default) = false) (fun i => l.length - i) ?_ ?_
      · refine ⟨0, ⟨Nat.zero_le _, fun j h => by omega⟩, ?_⟩
        dsimp only [go_sem, Option.bind, Option.map, List.append_nil, Nat.beq, List.cons_append, List.nil_append, List.append_eq, List.map_cons, List.map_nil, ite_self, reduceIte]
        simp only [leS_mk, leL_cons, leL_nil, le_junk, le_int, le_bool, le_nil, leLL_nil, leLL_cons, leH_cons, leH_nil, leH1_box, leH1_own, leH1_gone, le_vs, le_agg, le_tup, le_ptr, le_own, le_xp, le_fn, le_opt, le_val, le_elem, le_nil_own, le_nil_vs, leH_ghost, leL_chunk, leXL_id, bnd_int, bnd_bool, bnd_val, bnd_nil, bnd_junk, bnd_vs, bnd_xp, bnd_agg, bnd_tup, bnd_ptr, bnd_own, bnd_elem, bnd_fn, bnd_iface, bnd_opt, bndL_nil, bndL_cons, lenH_cons, lenH_nil, imp_self, implies_true, true_and, and_true]
        simp
      · rintro i ⟨hi, ha⟩
        dsimp only [PA1_ct43, PA1_ct45, isCt, isCf, isC', encC, enc2, Int.toNat_natCast, go_sem, Option.bind, Option.map, List.append_nil, Nat.beq, List.cons_append, List.nil_append, List.append_eq, List.map_cons, List.map_nil, ite_self, reduceIte]
        simp only [true_and, and_true, imp_self, implies_true, decide_eq_true_eq, decide_eq_false_iff_not, Nat.reduceAdd, Nat.reduceLeDiff, Bool.not_not, reduceCtorEq, false_imp_iff, Bool.not_eq_true', Bool.not_eq_false', Bool.false_eq_true, and_self, forall_const, ne_eq, not_false_eq_true, Nat.reduceEqDiff]
        refine ⟨fun hlt => ?_, fun hge => ?_⟩
        · have hi' : i < l.length := by omega
          refine ⟨⟨by omega, hlt⟩, l.getD i default, ⟨lsP_self, hin _ (getD_mem hi')⟩, fun hb => ?_, fun hb => ?_⟩
          · rw [← hF] at hb
            have e : l.any F = true := List.any_eq_true.2 ⟨_, getD_mem hi', hb⟩
            rw [decide_eq_true (show 0 ≤ (i : Int) by omega)]
            exact ans_bool (by rw [e] at h; exact h)
          · rw [← hF] at hb
            refine ⟨i + 1, ⟨by omega, fun j hj => ?_⟩, by omega, ?_⟩
            · rcases Nat.lt_or_ge j i with h' | h'
              · exact ha j h'
              · obtain rfl : j = i := by omega
                exact hb
            · simp only [w_succ (i := i) (n := l.length) (by omega) (by omega), leS_mk, leL_cons, leL_nil, le_junk, le_int, le_bool, le_nil, leLL_nil, leLL_cons, leH_cons, leH_nil, leH1_box, leH1_own, leH1_gone, le_vs, le_agg, le_tup, le_ptr, le_own, le_xp, le_fn, le_opt, le_val, le_elem, le_nil_own, le_nil_vs, leH_ghost, leL_chunk, leXL_id, bnd_int, bnd_bool, bnd_val, bnd_nil, bnd_junk, bnd_vs, bnd_xp, bnd_agg, bnd_tup, bnd_ptr, bnd_own, bnd_elem, bnd_fn, bnd_iface, bnd_opt, bndL_nil, bndL_cons, lenH_cons, lenH_nil, imp_self, implies_true, true_and, and_true] <;> simp
        · have e : l.any F = false := List.any_eq_false.2 fun x hx => by
            obtain ⟨j, hj, rfl⟩ := mem_getD hx
            rw [ha j (by omega)]; simp
          exact ans_bool (by rw [e] at h; exact h)
    · refine ⟨[.vs t z l.length 1 (fun k => encC (l.getD k default)), .fn (.func 45) [] []], ⟨by simpa [le] using hg, by simp [le_fn, bndL], trivial⟩, ?_⟩
      dsimp only [v42, v72, PA1_ct72, PA1_fn72, encC, go_sem, Option.bind, Option.map, List.append_nil, Nat.beq, List.cons_append, List.nil_append, List.append_eq, List.map_cons, List.map_nil, ite_self, reduceIte]
      simp only [true_and, and_true, imp_self, implies_true, decide_eq_true_eq, decide_eq_false_iff_not, Nat.reduceAdd, Nat.reduceLeDiff, Bool.not_not, reduceCtorEq, false_imp_iff, Bool.not_eq_true', Bool.not_eq_false', Bool.false_eq_true, and_self, forall_const, ne_eq, not_false_eq_true, Nat.reduceEqDiff]
      refine Loop.keep [0, 0, 5, 0] Nat (fun i => [(8, .int .i64 i)]) (fun _ => []) [] (fun i => i ≤ l.length ∧ ∀ j, j < i → F (l.getD j default) = false) (fun i => l.length - i) ?_ ?_
      · refine ⟨0, ⟨Nat.zero_le _, fun j h => by omega⟩, ?_⟩
        dsimp only [go_sem, Option.bind, Option.map, List.append_nil, Nat.beq, List.cons_append, List.nil_append, List.append_eq, List.map_cons, List.map_nil, ite_self, reduceIte]
        simp only [leS_mk, leL_cons, leL_nil, le_junk, le_int, le_bool, le_nil, leLL_nil, leLL_cons, leH_cons, leH_nil, leH1_box, leH1_own, leH1_gone, le_vs, le_agg, le_tup, le_ptr, le_own, le_xp, le_fn, le_opt, le_val, le_elem, le_nil_own, le_nil_vs, leH_ghost, leL_chunk, leXL_id, bnd_int, bnd_bool, bnd_val, bnd_nil, bnd_junk, bnd_vs, bnd_xp, bnd_agg, bnd_tup, bnd_ptr, bnd_own, bnd_elem, bnd_fn, bnd_iface, bnd_opt, bndL_nil, bndL_cons, lenH_cons, lenH_nil, imp_self, implies_true, true_and, and_true]
        simp
      · rintro i ⟨hi, ha⟩
        dsimp only [PA1_ct43, PA1_ct45, isCt, isCf, isC', encC, enc2, Int.toNat_natCast, go_sem, Option.bind, Option.map, List.append_nil, Nat.beq, List.cons_append, List.nil_append, List.append_eq, List.map_cons, List.map_nil, ite_self, reduceIte]
        simp only [true_and, and_true, imp_self, implies_true, decide_eq_true_eq, decide_eq_false_iff_not, Nat.reduceAdd, Nat.reduceLeDiff, Bool.not_not, reduceCtorEq, false_imp_iff, Bool.not_eq_true', Bool.not_eq_false', Bool.false_eq_true, and_self, forall_const, ne_eq, not_false_eq_true, Nat.reduceEqDiff]
        refine ⟨fun hlt => ?_, fun hge => ?_⟩
        · have hi' : i < l.length := by omega
          refine ⟨⟨by omega, hlt⟩, l.getD i default, ⟨lsP_self, hin _ (getD_mem hi')⟩, fun hb => ?_, fun hb => ?_⟩
          · rw [← hF] at hb
            have e : l.any F = true := List.any_eq_true.2 ⟨_, getD_mem hi', hb⟩
            rw [decide_eq_true (show 0 ≤ (i : Int) by omega)]
            exact ans_bool (by rw [e] at h; exact h)
          · rw [← hF] at hb
            refine ⟨i + 1, ⟨by omega, fun j hj => ?_⟩, by omega, ?_⟩
            · rcases Nat.lt_or_ge j i with h' | h'
              · exact ha j h'
              · obtain rfl : j = i := by omega
                exact hb
            · simp only [w_succ (i := i) (n := l.length) (by omega) (by omega), leS_mk, leL_cons, leL_nil, le_junk, le_int, le_bool, le_nil, leLL_nil, leLL_cons, leH_cons, leH_nil, leH1_box, leH1_own, leH1_gone, le_vs, le_agg, le_tup, le_ptr, le_own, le_xp, le_fn, le_opt, le_val, le_elem, le_nil_own, le_nil_vs, leH_ghost, leL_chunk, leXL_id, bnd_int, bnd_bool, bnd_val, bnd_nil, bnd_junk, bnd_vs, bnd_xp, bnd_agg, bnd_tup, bnd_ptr, bnd_own, bnd_elem, bnd_fn, bnd_iface, bnd_opt, bndL_nil, bndL_cons, lenH_cons, lenH_nil, imp_self, implies_true, true_and, and_true] <;> simp
        · have e : l.any F = false := List.any_eq_false.2 fun x hx => by
            obtain ⟨j, hj, rfl⟩ := mem_getD hx
            rw [ha j (by omega)]; simp
          exact ans_bool (by rw [e] at h; exact h)
  · exact h.1.elim

/-! ### The plan -/

def plnF (cs : List Chn) (l : List Plt) (w : Wsh) : List (List Int) × Int :=
  if (decide (61 < cs.length) || decide (40 < l.length) || cs.any (isF true)) = true then ([], 3) else if (l.any palB || wshB w || cs.any (isF false)) = true then ([], 2) else (cs.map fun q => bestF (areaF q.2) w l, 0)
def vsV (z : Bool) (p : List (List Int)) : SV := .vs true z p.length 1 (fun k => [vsI (p.getD k default)])
def plnC : Ctr := { alias := false, of := fun l => match l with
  | [.vs _ _ n sz get, .vs _ _ n' sz' get', .agg [.int .i64 per, .int .i64 pr, .int .i64 most]] => .ex (List Chn) fun cs => .ex (List Plt) fun l => .pre (lsP 1 encC n sz get cs ∧ lsP 4 encP n' sz' get' l ∧ cs.length ≤ 1000000000000 ∧ l.length ≤ 1000000000000 ∧ ∀ q ∈ cs, q.2.length ≤ 1000000000000) (.all Bool fun z => .fin (.tup [vsV z (plnF cs l ⟨per, pr, most⟩).1, .int .i64 (plnF cs l ⟨per, pr, most⟩).2]) [])
  | _ => noC }
theorem ans_nilV {k : SV → List HO → Prop} {al : Bool} {hp : List HO} {e : Int} (h : k (.tup [vsV true [], .int .i64 e]) []) : answers al k (.tup [.nil, .int .i64 e]) hp :=
  ans_le (show k _ [] from h) (by simp [vsV, expo, view, viewL, le, leL]) (fun _ => by simp [vsV, freshS, freshL])
theorem leXL_ite {P : Prop} [Decidable P] (hP : P) {a b c : List SV} {f : List SV → List SV} (h : leXL (f a) c) : leXL (f (if P then a else b)) c := by rw [if_pos hP]; exact h
def PA2 : Env := { ct := fun n => match n with | 22 => some areaC | 44 => some shopC | 46 => some chooseC | 42 => some anyCC | _ => none, fn := fun _ => none, meth := fun _ _ => none }
theorem PA2_ct22 : PA2.ct 22 = some areaC := rfl
theorem PA2_ct44 : PA2.ct 44 = some shopC := rfl
theorem PA2_ct46 : PA2.ct 46 = some chooseC := rfl
theorem PA2_ct42 : PA2.ct 42 = some anyCC := rfl
theorem PA2_ok : EnvOk Tryz.prog PA2 := by
  refine ⟨fun f c h => ?_, fun f vf h => ?_, (fun _ _ _ h => by cases h), by kernel_rfl⟩
  · simp only [PA2] at h
    split at h
    · cases h; exact ⟨area_ok, Tryz.f22, Tryz.func22, by kernel_rfl, by kernel_rfl⟩
    · cases h; exact ⟨shop_ok, Tryz.f44, Tryz.func44, by kernel_rfl, by kernel_rfl⟩
    · cases h; exact ⟨choose_ok, Tryz.f46, Tryz.func46, by kernel_rfl, by kernel_rfl⟩
    · cases h; exact ⟨anyC_ok, Tryz.f42, Tryz.func42, by kernel_rfl, by kernel_rfl⟩
    · cases h
  · cases h

theorem plan_ok : plnC.ok Tryz.prog 14 := by
  refine contract Tryz.func14 v14_is PA2_ok 300 plnC fun args k h => ?_
  simp only [plnC] at h
  split at h
  · rename_i t z n sz get t' z' n' sz' get' per pr most
    obtain ⟨cs, l, ⟨⟨rfl, rfl, hg⟩, ⟨rfl, rfl, hg'⟩, hcl, hll, hin⟩, h⟩ := h
    refine ⟨[.vs t z cs.length 1 (fun k => encC (cs.getD k default)), .vs t' z' l.length 4 (fun k => encP (l.getD k default)), .agg [.int .i64 per, .int .i64 pr, .int .i64 most]], ⟨by simpa [le] using hg, by simpa [le] using hg', by simp [le, leL], trivial⟩, ?_⟩
    have h : ∀ z, k (.tup [vsV z (plnF cs l ⟨per, pr, most⟩).1, .int .i64 (plnF cs l ⟨per, pr, most⟩).2]) [] := h
    have e61 : decide ((61 : Int) < (cs.length : Int)) = decide (61 < cs.length) := by rw [decide_eq_decide]; omega
    have e40 : decide ((40 : Int) < (l.length : Int)) = decide (40 < l.length) := by rw [decide_eq_decide]; omega
    dsimp only [v14, PA2_ct22, PA2_ct44, PA2_ct46, PA2_ct42, anyCC, shopC, encC, encP, enc2, Int.toNat_natCast, go_sem, Option.bind, Option.map, List.append_nil, Nat.beq, List.cons_append, List.nil_append, List.append_eq, List.map_cons, List.map_nil, ite_self, reduceIte]
    simp only [true_and, and_true, imp_self, implies_true, decide_eq_true_eq, decide_eq_false_iff_not, Nat.reduceAdd, Nat.reduceLeDiff, Bool.not_not, reduceCtorEq, false_imp_iff, Bool.not_eq_true', Bool.not_eq_false', Bool.false_eq_true, and_self, forall_const, ne_eq, not_false_eq_true, Nat.reduceEqDiff]
    refine ⟨cs, isF true, fun _ => ⟨lsP_self, hcl, hin, rfl, .inl ⟨rfl, rfl⟩⟩, fun hc => ?_, fun hc => ⟨l, ⟨lsP_self, hll⟩, cs, isF false, fun _ => ⟨lsP_self, hcl, hin, rfl, .inr ⟨rfl, rfl⟩⟩, fun hd => ?_, fun hd => ⟨⟨by decide, by omega, by omega, ?_⟩, ?_⟩⟩⟩
    · rw [e61, e40] at hc
      have h := h true
      rw [plnF, if_pos hc] at h
      exact ans_nilV h
    · rw [e61, e40] at hc
      have h := h true
      rw [plnF, if_neg (by rw [hc]; simp), if_pos hd] at h
      exact ans_nilV h
    · rw [Bool.or_eq_false_iff, Bool.or_eq_false_iff, decide_eq_false_iff_not] at hc
      unfold capOk; omega
    · rw [e61, e40] at hc
      have h := h false
      rw [plnF, if_neg (by rw [hc]; simp), if_neg (by rw [hd]; simp)] at h
      rw [Bool.or_eq_false_iff, Bool.or_eq_false_iff, decide_eq_false_iff_not, decide_eq_false_iff_not] at hc
      rw [Bool.or_eq_false_iff, Bool.or_eq_false_iff] at hd
      refine Loop.keep [8, 0, 28, 0] Nat (fun i => [(40, .int .i64 i)]) (fun i => [(2, .own false 1 cs.length (fun k => if k < i then [vsI (bestF (areaF (cs.getD k default).2) ⟨per, pr, most⟩ l)] else [.nil]))]) [] (fun i => i ≤ cs.length) (fun i => cs.length - i) ?_ ?_
      · refine ⟨0, Nat.zero_le _, ?_⟩
        dsimp only [go_sem, Option.bind, Option.map, List.append_nil, Nat.beq, List.cons_append, List.nil_append, List.append_eq, List.map_cons, List.map_nil, ite_self, reduceIte]
        simp only [leS_mk, leL_cons, leL_nil, le_junk, le_int, le_bool, le_nil, leLL_nil, leLL_cons, leH_cons, leH_nil, leH1_box, leH1_own, leH1_gone, le_vs, le_agg, le_tup, le_ptr, le_own, le_xp, le_fn, le_opt, le_val, le_elem, le_nil_own, le_nil_vs, leH_ghost, leL_chunk, leXL_id, bnd_int, bnd_bool, bnd_val, bnd_nil, bnd_junk, bnd_vs, bnd_xp, bnd_agg, bnd_tup, bnd_ptr, bnd_own, bnd_elem, bnd_fn, bnd_iface, bnd_opt, bndL_nil, bndL_cons, lenH_cons, lenH_nil, imp_self, implies_true, true_and, and_true] <;> simp
        exact fun _ _ => ⟨⟨rfl, trivial⟩, trivial⟩
      · rintro i hi
        dsimp only [PA2_ct22, PA2_ct46, areaC, chooseC, encC, encP, enc2, vsI, Int.toNat_natCast, go_sem, Option.bind, Option.map, List.append_nil, Nat.beq, List.cons_append, List.nil_append, List.append_eq, List.map_cons, List.map_nil, ite_self, reduceIte]
        simp only [true_and, and_true, imp_self, implies_true, decide_eq_true_eq, decide_eq_false_iff_not, Nat.reduceAdd, Nat.reduceLeDiff, Bool.not_not, reduceCtorEq, false_imp_iff, Bool.not_eq_true', Bool.not_eq_false', Bool.false_eq_true, and_self, forall_const, ne_eq, not_false_eq_true, Nat.reduceEqDiff]
        refine ⟨fun hlt => ?_, fun hge => ?_⟩
        · have hi' : i < cs.length := by omega
          have hc0 : chkT (cs.getD i default).2 = 0 := by
            have := any_f hd.2 _ (getD_mem hi')
            unfold isF at this
            simpa using this
          obtain ⟨hc1, hc2⟩ := chkT_0 hc0
          have ha := area_all hc2 (by omega)
          refine ⟨⟨by omega, hlt⟩, (cs.getD i default).2, ⟨lsP_self, by omega, hc2⟩, l, ⟨lsP_self, by omega, any_f hd.1.1, hd.1.2, ha.1, ha.2⟩, ⟨by omega, hlt⟩, hi', i + 1, by omega, by omega, ?_⟩
          simp only [w_succ (i := i) (n := cs.length) (by omega) (by omega), leS_mk, leL_cons, leL_nil, le_junk, le_int, le_bool, le_nil, leLL_nil, leLL_cons, leH_cons, leH_nil, leH1_box, leH1_own, leH1_gone, le_vs, le_agg, le_tup, le_ptr, le_own, le_xp, le_fn, le_opt, le_val, le_elem, le_nil_own, le_nil_vs, leH_ghost, leL_chunk, leXL_id, bnd_int, bnd_bool, bnd_val, bnd_nil, bnd_junk, bnd_vs, bnd_xp, bnd_agg, bnd_tup, bnd_ptr, bnd_own, bnd_elem, bnd_fn, bnd_iface, bnd_opt, bndL_nil, bndL_cons, lenH_cons, lenH_nil, imp_self, implies_true, true_and, and_true]
          refine ⟨by simp, fun k hk => ?_⟩
          by_cases hki : k = i
          · subst hki
            rw [if_pos rfl, if_neg (by omega), if_pos (by omega)]
            exact ⟨le_self _ trivial, trivial⟩
          · rw [if_neg hki]
            rcases Nat.lt_or_ge k i with h' | h'
            · rw [if_pos h', if_pos (by omega)]
              exact ⟨le_self _ trivial, trivial⟩
            · rw [if_neg (by omega), if_neg (by omega)]
              exact ⟨le_self _ trivial, trivial⟩
        · obtain rfl : i = cs.length := by omega
          refine ans_le (show k _ [] from h) ?_ (fun _ => by simp [vsV, vsI, enc1, freshS, freshL])
          simp only [vsV, expo, view, viewL, getH]
          refine ⟨⟨fun h => h, rfl, by simp, rfl, fun j hj => ?_⟩, ⟨rfl, rfl⟩, trivial⟩
          refine leXL_ite (f := viewN true _ 2) (show addLo 0 j < cs.length from hj) ?_
          have e : (cs.map fun q => bestF (areaF q.2) ⟨per, pr, most⟩ l).getD j default = bestF (areaF (cs.getD j default).2) ⟨per, pr, most⟩ l := getD_map hj
          show leXL _ [vsI ((cs.map fun q => bestF (areaF q.2) ⟨per, pr, most⟩ l).getD j default)]
          rw [e]
          simp [addLo, viewN, viewL, view, vsI, enc1, leXL, leX, andT]
  · exact h.1.elim
end Go.Proofs.YtngccjllkgpjmaaGreat

/- Chests, in plain Lean: the best choice is the best. -/
/- Chests, in plain Lean: the best choice is the best. -/
set_option linter.all false
namespace Go.Proofs.YtngccjllkgpjmaaGreat
open Go Go.Vx

/-- Is a list a choice, and how heavy? -/
def isC (a : Iv) (w : Wsh) (l : List Plt) (x : List Int) : Prop := (chcF a w l x).2 = true
/-- One choice is no worse than another one: fewer pallets, lighter, or a lesser list. -/
def betterEq (x y : List Int × Int) : Prop := x.1.length < y.1.length ∨ x.1.length = y.1.length ∧ (x.2 < y.2 ∨ x.2 = y.2 ∧ (x.1 = y.1 ∨ ∃ i, i < x.1.length ∧ (∀ j, j < i → x.1.getD j default = y.1.getD j default) ∧ x.1.getD i default < y.1.getD i default))

theorem chc1 {a : Iv} {w : Wsh} {l : List Plt} {i : Int} : chcF a w l [i] = (if (0 ≤ i ∧ i < l.length) ∧ fh (l.getD i.toNat default) w.pr ≤ w.most then (fh (l.getD i.toNat default) w.pr, decide (cmpF a (openF (l.getD i.toNat default)) w.per = 1)) else (0, false)) := by
  have e1 : okA w l [i] = (decide ((0 ≤ i ∧ i < l.length) ∧ fh (l.getD i.toNat default) w.pr ≤ w.most)) := by
    rw [Bool.eq_iff_iff, decide_eq_true_eq]
    simp [okA, okI, List.range, List.range.loop]
  have e2 : chs l [i] = [l.getD i.toNat default] := rfl
  unfold chcF
  rw [if_neg (by simp), e1, e2]
  simp [wtS, chs, sumO]
theorem chc2 {a : Iv} {w : Wsh} {l : List Plt} {i j : Int} : chcF a w l [i, j] = (if (0 ≤ i ∧ i ≤ j ∧ j < l.length) ∧ fh (l.getD i.toNat default) w.pr ≤ w.most ∧ fh (l.getD j.toNat default) w.pr ≤ w.most then (fh (l.getD i.toNat default) w.pr + fh (l.getD j.toNat default) w.pr, decide (cmpF a (openF (l.getD i.toNat default) + openF (l.getD j.toNat default)) w.per = 1)) else (0, false)) := by
  have e1 : okA w l [i, j] = (decide ((0 ≤ i ∧ i ≤ j ∧ j < l.length) ∧ fh (l.getD i.toNat default) w.pr ≤ w.most ∧ fh (l.getD j.toNat default) w.pr ≤ w.most)) := by
    rw [Bool.eq_iff_iff, decide_eq_true_eq]
    simp [okA, okI, List.range, List.range.loop]
    omega
  have e2 : chs l [i, j] = [l.getD i.toNat default, l.getD j.toNat default] := rfl
  unfold chcF
  rw [if_neg (by simp), e1, e2]
  simp [wtS, chs, sumO]
theorem chc_len {a : Iv} {w : Wsh} {l : List Plt} {x : List Int} (h : (chcF a w l x).2 = true) : x.length = 1 ∨ x.length = 2 := by
  unfold chcF at h
  split at h
  · cases h
  · rename_i hn
    rw [Bool.or_eq_true, decide_eq_true_eq, decide_eq_true_eq] at hn
    omega

/-- What the search holds after some candidates: the best one of those, if any is a choice. -/
structure Inv (a : Iv) (w : Wsh) (l : List Plt) (b : Bst) (P : List Int → Prop) : Prop where
  nil : b.1 = [] → b.2 = 0 ∧ ∀ x, P x → ¬ isC a w l x
  some : b.1 ≠ [] → P b.1 ∧ chcF a w l b.1 = (b.2, true) ∧ ∀ x, P x → isC a w l x → betterEq b (x, (chcF a w l x).1)

theorem better_refl {x : List Int × Int} : betterEq x x := .inr ⟨rfl, .inr ⟨rfl, .inl rfl⟩⟩

/-- One candidate more, which comes after all others. -/
theorem inv_step {a : Iv} {w : Wsh} {l : List Plt} {b : Bst} {P : List Int → Prop} {c : Cnd} (h : Inv a w l b P) (hlen : ∀ x, P x → x.length = c.ids.length) (hne : c.ids ≠ [])
    (hlt : ∀ x, P x → x = c.ids ∨ ∃ i, i < x.length ∧ (∀ j, j < i → x.getD j default = c.ids.getD j default) ∧ x.getD i default < c.ids.getD i default)
    (hc : (isC a w l c.ids ↔ ¬ (w.most < c.hv ∨ cmpF a c.op w.per ≠ 1)) ∧ (isC a w l c.ids → chcF a w l c.ids = (c.wt, true))) :
    Inv a w l (tryF a w b c) (fun x => P x ∨ x = c.ids) := by
  unfold tryF
  split
  · rename_i hno
    have hn : ¬ isC a w l c.ids := fun hi => hc.1.1 hi hno
    refine ⟨fun hb => ⟨(h.nil hb).1, ?_⟩, fun hb => ⟨.inl (h.some hb).1, (h.some hb).2.1, ?_⟩⟩
    · rintro x (hx | rfl)
      · exact (h.nil hb).2 x hx
      · exact hn
    · rintro x (hx | rfl) hi
      · exact (h.some hb).2.2 x hx hi
      · exact absurd hi hn
  · rename_i hyes
    have hi := hc.1.2 hyes
    have hv := hc.2 hi
    split
    · rename_i hr
      refine ⟨fun hb => absurd hb hne, fun _ => ⟨.inr rfl, hv, ?_⟩⟩
      rintro x (hx | rfl) hxi
      · rcases hr with hb | hw
        · exact absurd hxi ((h.nil hb).2 x hx)
        · by_cases hb : b.1 = []
          · exact absurd hxi ((h.nil hb).2 x hx)
          · have := (h.some hb).2.2 x hx hxi
            have hl1 := hlen _ (h.some hb).1
            have hl2 := hlen _ hx
            refine .inr ⟨by show c.ids.length = x.length; omega, .inl ?_⟩
            show c.wt < (chcF a w l x).1
            rcases this with h | ⟨_, h | ⟨h, _⟩⟩
            · dsimp only at h; omega
            · dsimp only at h; omega
            · dsimp only at h; omega
      · rw [hv]; exact better_refl
    · rename_i hr
      have hb : b.1 ≠ [] := fun h => hr (.inl h)
      refine ⟨fun h => absurd h hb, fun _ => ⟨.inl (h.some hb).1, (h.some hb).2.1, ?_⟩⟩
      rintro x (hx | rfl) hxi
      · exact (h.some hb).2.2 x hx hxi
      · rw [hv]
        have hl1 := hlen _ (h.some hb).1
        refine .inr ⟨hl1, ?_⟩
        show b.2 < c.wt ∨ b.2 = c.wt ∧ _
        rcases Int.lt_or_le b.2 c.wt with h1 | h1
        · exact .inl h1
        · refine .inr ⟨by have : ¬ c.wt < b.2 := fun h => hr (.inr h)
                          omega, ?_⟩
          exact hlt _ (h.some hb).1
theorem Inv.cong {a : Iv} {w : Wsh} {l : List Plt} {b : Bst} {P Q : List Int → Prop} (h : Inv a w l b P) (hpq : ∀ x, P x ↔ Q x) : Inv a w l b Q :=
  ⟨fun hb => ⟨(h.nil hb).1, fun x hx => (h.nil hb).2 x ((hpq x).2 hx)⟩, fun hb => ⟨(hpq _).1 (h.some hb).1, (h.some hb).2.1, fun x hx => (h.some hb).2.2 x ((hpq x).2 hx)⟩⟩

def Pn1 (i : Nat) (x : List Int) : Prop := ∃ k : Nat, k < i ∧ x = [(k : Int)]
theorem ones_inv {a : Iv} {w : Wsh} {l : List Plt} : ∀ {i : Nat}, i ≤ l.length → Inv a w l (ones1 a w l i) (Pn1 i)
  | 0, _ => ⟨fun _ => ⟨rfl, fun x ⟨k, hk, _⟩ => by omega⟩, fun h => absurd rfl h⟩
  | i + 1, hi => by
    have ih := ones_inv (a := a) (w := w) (l := l) (i := i) (by omega)
    have hs := inv_step (c := cand1 w l i) ih (fun x ⟨k, _, hx⟩ => by rw [hx]; rfl) (by simp [cand1]) (fun x ⟨k, hk, hx⟩ => .inr ⟨0, by rw [hx]; simp, fun j hj => by omega, by rw [hx]; simp [cand1]; exact_mod_cast hk⟩) ?_
    · refine hs.cong fun x => ⟨?_, ?_⟩
      · rintro (⟨k, hk, rfl⟩ | rfl)
        · exact ⟨k, by omega, rfl⟩
        · exact ⟨i, by omega, rfl⟩
      · rintro ⟨k, hk, rfl⟩
        rcases Nat.lt_or_ge k i with h | h
        · exact .inl ⟨k, h, rfl⟩
        · obtain rfl : k = i := by omega
          exact .inr rfl
    · unfold isC cand1
      dsimp only
      rw [chc1]
      have e : ((i : Int)).toNat = i := Int.toNat_natCast i
      rw [e]
      generalize fh (l.getD i default) w.pr = f
      generalize cmpF a (openF (l.getD i default)) w.per = g
      by_cases hm : f ≤ w.most
      · rw [if_pos ⟨⟨by omega, by omega⟩, hm⟩]
        by_cases hcm : g = 1
        · simp [hcm]; omega
        · simp [hcm]
      · rw [if_neg (fun h => hm h.2)]
        simp; omega

def Pn2 (i d : Nat) (n : Nat) (x : List Int) : Prop := ∃ k m : Nat, k ≤ m ∧ m < n ∧ (k < i ∨ k = i ∧ m < i + d) ∧ x = [(k : Int), (m : Int)]
theorem row_inv {a : Iv} {w : Wsh} {l : List Plt} {i : Nat} {b : Bst} (hi : i < l.length) (hb : Inv a w l b (Pn2 i 0 l.length)) : ∀ {d : Nat}, d ≤ l.length - i → Inv a w l (row2 a w l i b d) (Pn2 i d l.length)
  | 0, _ => hb
  | d + 1, hd => by
    have ih := row_inv hi hb (d := d) (by omega)
    have hs := inv_step (c := cand2 w l i (i + d)) ih (fun x ⟨k, m, _, _, _, hx⟩ => by rw [hx]; rfl) (by simp [cand2]) ?_ ?_
    · refine hs.cong fun x => ⟨?_, ?_⟩
      · rintro (⟨k, m, h1, h2, h3, rfl⟩ | rfl)
        · exact ⟨k, m, h1, h2, by omega, rfl⟩
        · exact ⟨i, i + d, by omega, by omega, by omega, rfl⟩
      · rintro ⟨k, m, h1, h2, h3, rfl⟩
        by_cases h : k = i ∧ m = i + d
        · obtain ⟨rfl, rfl⟩ := h
          exact .inr rfl
        · exact .inl ⟨k, m, h1, h2, by omega, rfl⟩
    · rintro x ⟨k, m, h1, h2, h3, rfl⟩
      rcases h3 with h3 | ⟨rfl, h3⟩
      · exact .inr ⟨0, by simp, fun j hj => by omega, by simp [cand2]; exact_mod_cast h3⟩
      · refine .inr ⟨1, by simp, fun j hj => ?_, ?_⟩
        · obtain rfl : j = 0 := by omega
          rfl
        · show (m : Int) < ((k + d : Nat) : Int)
          omega
    · unfold isC cand2
      dsimp only
      rw [chc2]
      have e : ((i : Int)).toNat = i := Int.toNat_natCast i
      have e' : (((i + d : Nat) : Int)).toNat = i + d := Int.toNat_natCast _
      rw [e, e']
      generalize fh (l.getD i default) w.pr = f
      generalize fh (l.getD (i + d) default) w.pr = f'
      generalize cmpF a (openF (l.getD i default) + openF (l.getD (i + d) default)) w.per = g
      by_cases hm : f ≤ w.most ∧ f' ≤ w.most
      · rw [if_pos ⟨⟨by omega, by omega, by omega⟩, hm⟩]
        by_cases hcm : g = 1
        · simp [hcm]; omega
        · simp [hcm]
      · rw [if_neg (fun h => hm h.2)]
        simp; omega
theorem twos_inv {a : Iv} {w : Wsh} {l : List Plt} {b : Bst} (hb : Inv a w l b (fun _ => False)) : ∀ {i : Nat}, i ≤ l.length → Inv a w l (twos a w l b i) (Pn2 i 0 l.length)
  | 0, _ => hb.cong fun x => ⟨False.elim, fun ⟨k, m, _, _, h, _⟩ => by omega⟩
  | i + 1, hi => by
    have ih := twos_inv hb (i := i) (by omega)
    have := row_inv (by omega : i < l.length) ih (d := l.length - i) (Nat.le_refl _)
    refine this.cong fun x => ⟨?_, ?_⟩
    · rintro ⟨k, m, h1, h2, h3, rfl⟩
      exact ⟨k, m, h1, h2, by omega, rfl⟩
    · rintro ⟨k, m, h1, h2, h3, rfl⟩
      exact ⟨k, m, h1, h2, by omega, rfl⟩

theorem one_P {a : Iv} {w : Wsh} {l : List Plt} {x : List Int} (h : isC a w l x) (hl : x.length = 1) : Pn1 l.length x := by
  obtain ⟨i, rfl⟩ := List.length_eq_one_iff.1 hl
  unfold isC at h
  rw [chc1] at h
  split at h
  · rename_i hh
    exact ⟨i.toNat, by omega, by rw [Int.toNat_of_nonneg hh.1.1]⟩
  · cases h
theorem two_P {a : Iv} {w : Wsh} {l : List Plt} {x : List Int} (h : isC a w l x) (hl : x.length = 2) : Pn2 l.length 0 l.length x := by
  obtain ⟨i, j, rfl⟩ : ∃ i j, x = [i, j] := by
    match x, hl with
    | [i, j], _ => exact ⟨i, j, rfl⟩
  unfold isC at h
  rw [chc2] at h
  split at h
  · rename_i hh
    exact ⟨i.toNat, j.toNat, by omega, by omega, by omega, by rw [Int.toNat_of_nonneg hh.1.1, Int.toNat_of_nonneg (by omega)]⟩
  · cases h

theorem best_some {a : Iv} {w : Wsh} {l : List Plt} (h : bestF a w l ≠ []) : ∃ v, chcF a w l (bestF a w l) = (v, true) ∧ ∀ x, isC a w l x → betterEq (bestF a w l, v) (x, (chcF a w l x).1) := by
  unfold bestF at h ⊢
  split at h
  · rename_i hn
    rw [if_pos hn]
    obtain ⟨⟨k, hk, hb⟩, h2, h3⟩ := (ones_inv (a := a) (w := w) (Nat.le_refl l.length)).some hn
    refine ⟨_, h2, fun x hx => ?_⟩
    rcases chc_len hx with hl | hl
    · exact h3 x (one_P hx hl) hx
    · refine .inl ?_
      dsimp only
      rw [hb, hl]; simp
  · rename_i hn
    rw [if_neg hn]
    have hn : (ones1 a w l l.length).1 = [] := Classical.not_not.1 hn
    have h1 := (ones_inv (a := a) (w := w) (Nat.le_refl l.length)).nil hn
    have hb : Inv a w l (ones1 a w l l.length) (fun _ => False) := ⟨fun _ => ⟨h1.1, fun _ h => h.elim⟩, fun h => absurd hn h⟩
    obtain ⟨_, h2, h3⟩ := (twos_inv hb (Nat.le_refl l.length)).some h
    refine ⟨_, h2, fun x hx => ?_⟩
    rcases chc_len hx with hl | hl
    · exact absurd hx (h1.2 x (one_P hx hl))
    · exact h3 x (two_P hx hl) hx
end Go.Proofs.YtngccjllkgpjmaaGreat

/- Chests, in plain Lean: the reference's search of the best choice. -/
/- Chests, in plain Lean: the reference's search of the best choice. -/
set_option linter.all false
namespace Go.Proofs.YtngccjllkgpjmaaGreat
open Go Go.Vx

def oneL (n : Nat) : List (List Int) := (List.range n).map fun (k : Nat) => [(k : Int)]
def rowL (i d : Nat) : List (List Int) := (List.range d).map fun (d : Nat) => [(i : Int), ((i + d : Nat) : Int)]
def twoL (n : Nat) : Nat → List (List Int)
  | 0 => []
  | i + 1 => twoL n i ++ rowL i (n - i)
def allL (n : Nat) : List (List Int) := oneL n ++ twoL n n
def stepB (a : Iv) (w : Wsh) (l : List Plt) (b : Bst) (x : List Int) : Bst :=
  if (chcF a w l x).2 = true ∧ (b.1 = [] ∨ x.length = b.1.length ∧ (chcF a w l x).1 < b.2) then (x, (chcF a w l x).1) else b
def foldB (a : Iv) (w : Wsh) (l : List Plt) (b : Bst) (xs : List (List Int)) : Bst := xs.foldl (stepB a w l) b

theorem oneL_succ (n : Nat) : oneL (n + 1) = oneL n ++ [[(n : Int)]] := by simp [oneL, List.range_succ]
theorem rowL_succ (i d : Nat) : rowL i (d + 1) = rowL i d ++ [[(i : Int), ((i + d : Nat) : Int)]] := by simp [rowL, List.range_succ]
theorem oneL_len (n : Nat) : (oneL n).length = n := by simp [oneL]
theorem rowL_len (i d : Nat) : (rowL i d).length = d := by simp [rowL]

variable {a : Iv} {w : Wsh} {l : List Plt}
theorem stepB_one {b : Bst} {i : Nat} (hi : i < l.length) (hb : b.1 = [] ∨ b.1.length = 1) : stepB a w l b [(i : Int)] = tryF a w b (cand1 w l i) := by
  have e : ((i : Int)).toNat = i := Int.toNat_natCast i
  by_cases h1 : fh (l.getD i default) w.pr ≤ w.most
  · have hch : chcF a w l [(i : Int)] = (fh (l.getD i default) w.pr, decide (cmpF a (openF (l.getD i default)) w.per = 1)) := by
      rw [chc1, e, if_pos ⟨⟨by omega, by omega⟩, h1⟩]
    unfold stepB tryF cand1
    rw [hch]
    dsimp only
    generalize fh (l.getD i default) w.pr = f1 at *
    generalize cmpF a (openF (l.getD i default)) w.per = g
    by_cases h2 : g = 1
    · rw [if_neg (show ¬ (w.most < f1 ∨ g ≠ 1) from fun h => by rcases h with h | h; omega; exact h h2)]
      by_cases h3 : b.1 = []
      · simp [h2, h3]
      · have hl : b.1.length = 1 := hb.resolve_left h3
        simp [h2, h3, hl]
    · rw [if_pos (show (w.most < f1 ∨ g ≠ 1) from .inr h2)]
      simp [h2]
  · have hch : chcF a w l [(i : Int)] = (0, false) := by rw [chc1, e, if_neg (fun h => h1 h.2)]
    unfold stepB tryF cand1
    rw [hch, if_pos (show (w.most < fh (l.getD i default) w.pr ∨ cmpF a (openF (l.getD i default)) w.per ≠ 1) from .inl (by omega))]
    simp
theorem stepB_two {b : Bst} {i d : Nat} (hi : i + d < l.length) (hb : b.1 = [] ∨ b.1.length = 2) : stepB a w l b [(i : Int), ((i + d : Nat) : Int)] = tryF a w b (cand2 w l i (i + d)) := by
  have e : ((i : Int)).toNat = i := Int.toNat_natCast i
  have e' : (((i + d : Nat) : Int)).toNat = i + d := Int.toNat_natCast _
  by_cases h1 : fh (l.getD i default) w.pr ≤ w.most ∧ fh (l.getD (i + d) default) w.pr ≤ w.most
  · have hch : chcF a w l [(i : Int), ((i + d : Nat) : Int)] = (fh (l.getD i default) w.pr + fh (l.getD (i + d) default) w.pr, decide (cmpF a (openF (l.getD i default) + openF (l.getD (i + d) default)) w.per = 1)) := by
      rw [chc2, e, e', if_pos ⟨⟨by omega, by omega, by omega⟩, h1⟩]
    unfold stepB tryF cand2
    rw [hch]
    dsimp only
    generalize fh (l.getD i default) w.pr = f1 at *
    generalize fh (l.getD (i + d) default) w.pr = f2 at *
    generalize cmpF a (openF (l.getD i default) + openF (l.getD (i + d) default)) w.per = g
    by_cases h2 : g = 1
    · rw [if_neg (show ¬ (w.most < max f1 f2 ∨ g ≠ 1) from fun h => by rcases h with h | h; omega; exact h h2)]
      by_cases h3 : b.1 = []
      · simp [h2, h3]
      · have hl : b.1.length = 2 := hb.resolve_left h3
        simp [h2, h3, hl]
    · rw [if_pos (show (w.most < max f1 f2 ∨ g ≠ 1) from .inr h2)]
      simp [h2]
  · have hch : chcF a w l [(i : Int), ((i + d : Nat) : Int)] = (0, false) := by rw [chc2, e, e', if_neg (fun h => h1 h.2)]
    unfold stepB tryF cand2
    rw [hch, if_pos (show (w.most < max (fh (l.getD i default) w.pr) (fh (l.getD (i + d) default) w.pr) ∨ cmpF a (openF (l.getD i default) + openF (l.getD (i + d) default)) w.per ≠ 1) from .inl (by omega))]
    simp
theorem try_len {b : Bst} {c : Cnd} {n : Nat} (hb : b.1 = [] ∨ b.1.length = n) (hc : c.ids.length = n) : (tryF a w b c).1 = [] ∨ (tryF a w b c).1.length = n := by
  unfold tryF
  split
  · exact hb
  · split
    · exact .inr hc
    · exact hb
theorem ones_fold : ∀ {i : Nat}, i ≤ l.length → foldB a w l ([], 0) (oneL i) = ones1 a w l i ∧ ((ones1 a w l i).1 = [] ∨ (ones1 a w l i).1.length = 1)
  | 0, _ => ⟨rfl, .inl rfl⟩
  | i + 1, h => by
    obtain ⟨h1, h2⟩ := ones_fold (i := i) (by omega)
    unfold foldB at *
    rw [oneL_succ, List.foldl_append, h1]
    refine ⟨stepB_one (by omega) h2, try_len h2 rfl⟩
theorem row_fold {b : Bst} {i : Nat} (hi : i < l.length) (hb : b.1 = [] ∨ b.1.length = 2) : ∀ {d : Nat}, d ≤ l.length - i → foldB a w l b (rowL i d) = row2 a w l i b d ∧ ((row2 a w l i b d).1 = [] ∨ (row2 a w l i b d).1.length = 2)
  | 0, _ => ⟨rfl, hb⟩
  | d + 1, h => by
    obtain ⟨h1, h2⟩ := row_fold hi hb (d := d) (by omega)
    unfold foldB at *
    rw [rowL_succ, List.foldl_append, h1]
    refine ⟨stepB_two (by omega) h2, try_len h2 rfl⟩
theorem twos_fold {b : Bst} (hb : b.1 = [] ∨ b.1.length = 2) : ∀ {i : Nat}, i ≤ l.length → foldB a w l b (twoL l.length i) = twos a w l b i ∧ ((twos a w l b i).1 = [] ∨ (twos a w l b i).1.length = 2)
  | 0, _ => ⟨rfl, hb⟩
  | i + 1, h => by
    obtain ⟨h1, h2⟩ := twos_fold hb (i := i) (by omega)
    have h3 := row_fold (b := twos a w l b i) (a := a) (w := w) (i := i) (by omega) h2 (d := l.length - i) (Nat.le_refl _)
    unfold foldB at *
    rw [twoL, List.foldl_append, h1]
    exact h3
theorem fold_keep {b : Bst} (hb : b.1.length = 1) : ∀ {xs : List (List Int)}, (∀ x ∈ xs, x.length = 2) → foldB a w l b xs = b
  | [], _ => rfl
  | x :: xs, h => by
    have hx := h x List.mem_cons_self
    have : stepB a w l b x = b := by
      unfold stepB
      rw [if_neg]
      rintro ⟨_, h | ⟨h, _⟩⟩
      · rw [h] at hb; cases hb
      · omega
    show foldB a w l (stepB a w l b x) xs = b
    rw [this]
    exact fold_keep hb fun y hy => h y (List.mem_cons_of_mem _ hy)
theorem row_two {i d : Nat} : ∀ x ∈ rowL i d, x.length = 2 := fun x hx => by
  obtain ⟨k, _, rfl⟩ := List.mem_map.1 hx
  rfl
theorem two_two {n : Nat} : ∀ {i : Nat}, ∀ x ∈ twoL n i, x.length = 2
  | i + 1, x, hx => by
    rcases List.mem_append.1 hx with hx | hx
    · exact two_two x hx
    · exact row_two x hx
theorem one_one {n : Nat} : ∀ x ∈ oneL n, x.length = 1 := fun x hx => by
  obtain ⟨k, _, rfl⟩ := List.mem_map.1 hx
  rfl
/-- The reference's search finds the program's choice. -/
theorem all_best : (foldB a w l ([], 0) (allL l.length)).1 = bestF a w l := by
  obtain ⟨h1, h2⟩ := ones_fold (a := a) (w := w) (l := l) (Nat.le_refl l.length)
  unfold bestF allL
  have : foldB a w l ([], 0) (oneL l.length ++ twoL l.length l.length) = foldB a w l (foldB a w l ([], 0) (oneL l.length)) (twoL l.length l.length) := by
    unfold foldB; rw [List.foldl_append]
  rw [this, h1]
  rcases h2 with h2 | h2
  · rw [if_neg (fun h => h h2)]
    rw [(twos_fold (.inl h2) (Nat.le_refl _)).1]
  · rw [if_pos (fun h => by rw [h] at h2; cases h2), fold_keep h2 two_two]
theorem all_len {n : Nat} : ∀ {x}, x ∈ allL n → x.length = 1 ∨ x.length = 2 := fun {x} hx => by
  rcases List.mem_append.1 hx with hx | hx
  · exact .inl (one_one x hx)
  · exact .inr (two_two x hx)
theorem twoL_len {n : Nat} : ∀ {i : Nat}, (twoL n i).length ≤ n * i
  | 0 => Nat.le_refl _
  | i + 1 => by
    have := twoL_len (n := n) (i := i)
    rw [twoL, List.length_append, rowL_len, Nat.mul_succ]
    omega
end Go.Proofs.YtngccjllkgpjmaaGreat

/- Chests, walked: the reference's search of the best choice. -/
/- Chests, walked: the reference's search of the best choice. -/
set_option linter.all false
namespace Go.Proofs.YtngccjllkgpjmaaGreat
open Go Go.Vx
set_option maxRecDepth 100000
set_option maxHeartbeats 4000000

def v49 : VF := { ntmps := 97, res := [.tmp 6], body :=
 (.seq (.region [u1 3 .box [.tm 0],
 u1 5 .box [.tm 2],
 u1 6 .mov [.cn .nil]])
 (.seq (.region [u1 7 .mov [.cn .nil]])
 (.seq (.seq (.region [u1 8 .mov [.cn (.int .i64 0)]])
 (.block 0 (.loop (.seq (.seq (.region [u1 18 .mov [.tm 8],
 u1 19 .mov [.tm 1],
 u1 20 .len [.tm 19],
 u1 21 (.cmp .lss) [.tm 18, .tm 20]])
 (.cond (.tm 21) .skip
  (.exit 0)))
 (.seq (.block 1 (.region [u1 24 .mov [.tm 7],
 u1 25 .mov [.tm 8],
 u1 26 (.buildSlice 1 1 [(.int .i64 0)] [(0, 1)]) [.tm 25],
 u1 27 (.buildSlice 1 1 [.nil] [(0, 1)]) [.tm 26],
 u1 28 (.append 1 24 [.nil]) [.tm 24, .tm 27],
 u1 7 .mov [.tm 28]]))
 (.region [u1 22 .mov [.tm 8],
 u1 23 (.ari .add) [.tm 22, .cn (.int .i64 1)],
 u1 8 .mov [.tm 23]]))))))
 (.seq (.seq (.region [u1 9 .mov [.cn (.int .i64 0)]])
 (.block 2 (.loop (.seq (.seq (.region [u1 29 .mov [.tm 9],
 u1 30 .mov [.tm 1],
 u1 31 .len [.tm 30],
 u1 32 (.cmp .lss) [.tm 29, .tm 31]])
 (.cond (.tm 32) .skip
  (.exit 2)))
 (.seq (.block 3 (.seq (.region [u1 35 .mov [.tm 9],
 u1 10 .mov [.tm 35]])
 (.block 4 (.loop (.seq (.seq (.region [u1 36 .mov [.tm 10],
 u1 37 .mov [.tm 1],
 u1 38 .len [.tm 37],
 u1 39 (.cmp .lss) [.tm 36, .tm 38]])
 (.cond (.tm 39) .skip
  (.exit 4)))
 (.seq (.block 5 (.region [u1 42 .mov [.tm 7],
 u1 43 .mov [.tm 9],
 u1 44 .mov [.tm 10],
 u1 45 (.buildSlice 1 2 [(.int .i64 0)] [(0, 1), (1, 1)]) [.tm 43, .tm 44],
 u1 46 (.buildSlice 1 1 [.nil] [(0, 1)]) [.tm 45],
 u1 47 (.append 1 24 [.nil]) [.tm 42, .tm 46],
 u1 7 .mov [.tm 47]]))
 (.region [u1 40 .mov [.tm 10],
 u1 41 (.ari .add) [.tm 40, .cn (.int .i64 1)],
 u1 10 .mov [.tm 41]])))))))
 (.region [u1 33 .mov [.tm 9],
 u1 34 (.ari .add) [.tm 33, .cn (.int .i64 1)],
 u1 9 .mov [.tm 34]]))))))
 (.seq (.draw [(11, .box [(.int .i64 0), (.int .i64 0)])] [w1 48 (.load true 1) [.tm 3],
 w1 50 .mov [.tm 1],
 w1 51 (.load true 3) [.tm 5],
 w1 49 (.call 24) [.tm 48],
 w1 52 (.call 74) [.tm 50, .tm 51],
 w0 (.store 2) [.tm 11, .tm 49],
 w1 12 .mov [.tm 52]])
 (.seq (.region [u1 13 .mov [.cn .nil]])
 (.seq (.region [u1 14 .mov [.cn (.int .i64 0)]])
 (.seq (.seq (.region [u1 15 .mov [.cn (.int .i64 0)]])
 (.block 6 (.loop (.seq (.seq (.region [u1 53 .mov [.tm 15],
 u1 54 .mov [.tm 7],
 u1 55 .len [.tm 54],
 u1 56 (.cmp .lss) [.tm 53, .tm 55]])
 (.cond (.tm 56) .skip
  (.exit 6)))
 (.seq (.block 7 (.seq (.draw [] [w1 60 (.load true 2) [.tm 11],
 w1 61 .mov [.tm 12],
 w1 62 .mov [.tm 1],
 w1 63 (.load true 3) [.tm 5],
 w1 64 .mov [.tm 7],
 w1 65 .mov [.tm 15],
 w1 66 (.idxAddr 1) [.tm 64, .tm 65],
 w1 67 (.load false 1) [.tm 66],
 w1 68 (.call 75) [.tm 60, .tm 61, .tm 62, .tm 63, .tm 67],
 w1 59 .mov [.tm 68],
 w1 69 (.ext 0) [.tm 59],
 w1 70 (.ext 1) [.tm 59],
 w1 16 .mov [.tm 69],
 w1 17 .mov [.tm 70]])
 (.seq (.region [u1 71 .mov [.tm 17],
 u1 72 .mov [.tm 71],
 u2 73 72 true .mov [.tm 13],
 u2 74 72 true (.isNil false) [.tm 73, .cn .nil],
 u2 75 72 true .mov [.tm 74],
 u2 76 75 false .mov [.tm 7],
 u2 77 75 false .mov [.tm 15],
 u2 78 75 false (.idxAddr 1) [.tm 76, .tm 77],
 u2 79 75 false (.load false 1) [.tm 78],
 u2 80 75 false .len [.tm 79],
 u2 81 75 false .mov [.tm 13],
 u2 82 75 false .len [.tm 81],
 u2 83 75 false (.cmp .eql) [.tm 80, .tm 82],
 u2 84 75 false .mov [.tm 83],
 u2 85 84 true .mov [.tm 16],
 u2 86 84 true .mov [.tm 14],
 u2 87 84 true (.cmp .lss) [.tm 85, .tm 86],
 u2 88 75 false .and [.tm 84, .tm 87],
 u2 89 72 true .or [.tm 75, .tm 88],
 u1 90 .and [.tm 72, .tm 89]])
 (.cond (.tm 90) (.region [u1 91 .mov [.tm 7],
 u1 92 .mov [.tm 15],
 u1 93 (.idxAddr 1) [.tm 91, .tm 92],
 u1 94 (.load false 1) [.tm 93],
 u1 95 .mov [.tm 16],
 u1 13 .mov [.tm 94],
 u1 14 .mov [.tm 95]])
  .skip))))
 (.region [u1 57 .mov [.tm 15],
 u1 58 (.ari .add) [.tm 57, .cn (.int .i64 1)],
 u1 15 .mov [.tm 58]]))))))
 (.seq (.region [u1 96 .mov [.tm 13],
 u1 6 .mov [.tm 96]])
 .ret))))))))) }
theorem v49_is : vfunc Tryz.prog Tryz.f49 = some v49 := by kernel_rfl


def encV (x : List Int) : List SV := [vsI x]
def rbestC : Ctr := { alias := false, of := fun l => match l with
  | [.agg [.vs _ _ n2 sz2 get2], .vs _ _ n sz get, .agg [.int .i64 per, .int .i64 pr, .int .i64 most]] => .ex (List Iv) fun c => .ex (List Plt) fun l => .pre (lsP 2 enc2 n2 sz2 get2 c ∧ lsP 4 encP n sz get l ∧ c.length ≤ 100 ∧ (∀ t ∈ c, toeB t = false) ∧ l.length ≤ 100 ∧ (∀ p ∈ l, palB p = false) ∧ wshB ⟨per, pr, most⟩ = false) (.fin (vsI (bestF (areaF c) ⟨per, pr, most⟩ l)) [])
  | _ => noC }
theorem getD_app {L M : List (List Int)} {k : Nat} : (L ++ M).getD k default = if k < L.length then L.getD k default else M.getD (k - L.length) default := by
  simp only [List.getD_eq_getElem?_getD, List.getElem?_append]
  split <;> rfl
theorem oneL_at {n k : Nat} (h : k < n) : (oneL n).getD k default = [(k : Int)] := by
  simp [oneL, List.getD_eq_getElem?_getD, h]
/-- The list after some rounds. -/
def preL (n i d : Nat) : List (List Int) := oneL n ++ (twoL n i ++ rowL i d)
theorem preL_succ (n i d : Nat) : preL n i (d + 1) = preL n i d ++ [[(i : Int), ((i + d : Nat) : Int)]] := by
  simp [preL, rowL_succ]
theorem preL_next (n i : Nat) : preL n i (n - i) = preL n (i + 1) 0 := by
  simp [preL, twoL, rowL]
theorem preL_len {n i d : Nat} (h : i ≤ n) (hd : d ≤ n) (hn : n ≤ 100) : (preL n i d).length ≤ 20000 := by
  have := twoL_len (n := n) (i := i)
  have h2 : n * i ≤ 100 * 100 := Nat.mul_le_mul hn (by omega)
  simp only [preL, List.length_append, oneL_len, rowL_len]
  omega
def PB0 : Env := { ct := fun n => match n with | 24 => some areaC | 74 => some forcesC | 75 => some choiC | _ => none, fn := fun _ => none, meth := fun _ _ => none }
theorem PB0_ct24 : PB0.ct 24 = some areaC := rfl
theorem PB0_ct74 : PB0.ct 74 = some forcesC := rfl
theorem PB0_ct75 : PB0.ct 75 = some choiC := rfl
theorem PB0_ok : EnvOk Tryz.prog PB0 := by
  refine ⟨fun f c h => ?_, fun f vf h => ?_, (fun _ _ _ h => by cases h), by kernel_rfl⟩
  · simp only [PB0] at h
    split at h
    · cases h; exact ⟨rarea_ok, Tryz.f24, Tryz.func24, by kernel_rfl, by kernel_rfl⟩
    · cases h; exact ⟨forces_ok, Tryz.f74, Tryz.func74, by kernel_rfl, by kernel_rfl⟩
    · cases h; exact ⟨choi_ok, Tryz.f75, Tryz.func75, by kernel_rfl, by kernel_rfl⟩
    · cases h
  · cases h

theorem best_ok : rbestC.ok Tryz.prog 49 := by
  refine contract Tryz.func49 v49_is PB0_ok 500 rbestC fun args k h => ?_
  simp only [rbestC] at h
  split at h
  · rename_i t2 z2 n2 sz2 get2 t z n sz get per pr most
    obtain ⟨c, l, ⟨⟨rfl, rfl, hg2⟩, ⟨rfl, rfl, hg⟩, hcl, hct, hll, hv, hw⟩, h⟩ := h
    refine ⟨[.agg [.vs t2 z2 c.length 2 (fun k => enc2 (c.getD k default))], .vs t z l.length 4 (fun k => encP (l.getD k default)), .agg [.int .i64 per, .int .i64 pr, .int .i64 most]], ⟨by simpa [le, leL] using hg2, by simpa [le] using hg, by simp [le, leL], trivial⟩, ?_⟩
    have h : k (vsI (bestF (areaF c) ⟨per, pr, most⟩ l)) [] := h
    dsimp only [v49, encP, enc2, go_sem, Option.bind, Option.map, List.append_nil, Nat.beq, List.cons_append, List.nil_append, List.append_eq, List.map_cons, List.map_nil, ite_self, reduceIte]
    simp only [true_and, and_true, imp_self, implies_true, decide_eq_true_eq, decide_eq_false_iff_not, Nat.reduceAdd, Nat.reduceLeDiff, Bool.not_not, reduceCtorEq, false_imp_iff, Bool.not_eq_true', Bool.not_eq_false', Bool.false_eq_true, and_self, forall_const, ne_eq, not_false_eq_true, Nat.reduceEqDiff]
    refine Loop.keepF [1, 1, 1] Nat (fun i => [(7, .own 2 0 i 1), (8, .int .i64 i)]) (fun i => [(2, .own (decide (i = 0)) 1 i (fun k => encV ((oneL l.length).getD k default)))]) [.gone] (fun i => i ≤ l.length) (fun i => l.length - i) ?_ ?_
    · refine ⟨0, Nat.zero_le _, [], trivial, ?_⟩
      dsimp only [go_sem, Option.bind, Option.map, List.append_nil, Nat.beq, List.cons_append, List.nil_append, List.append_eq, List.map_cons, List.map_nil, ite_self, reduceIte]
      simp only [leH_ghost, leS_mk, leL_cons, leL_nil, le_junk, le_int, le_bool, le_nil, leLL_nil, leLL_cons, leH_cons, leH_nil, leH1_box, leH1_own, leH1_gone, le_vs, le_agg, le_tup, le_ptr, le_own, le_xp, le_fn, le_opt, le_val, le_elem, le_nil_own, le_nil_vs, leH_ghost, leL_chunk, leXL_id, bnd_int, bnd_bool, bnd_val, bnd_nil, bnd_junk, bnd_vs, bnd_xp, bnd_agg, bnd_tup, bnd_ptr, bnd_own, bnd_elem, bnd_fn, bnd_iface, bnd_opt, bndL_nil, bndL_cons, lenH_cons, lenH_nil, imp_self, implies_true, true_and, and_true] <;> simp
    · rintro i hi
      dsimp only [encV, vsI, Int.toNat_natCast, go_sem, Option.bind, Option.map, List.append_nil, Nat.beq, List.cons_append, List.nil_append, List.append_eq, List.map_cons, List.map_nil, ite_self, reduceIte]
      simp only [true_and, and_true, imp_self, implies_true, decide_eq_true_eq, decide_eq_false_iff_not, Nat.reduceAdd, Nat.reduceLeDiff, Bool.not_not, reduceCtorEq, false_imp_iff, Bool.not_eq_true', Bool.not_eq_false', Bool.false_eq_true, and_self, forall_const, ne_eq, not_false_eq_true, Nat.reduceEqDiff]
      refine ⟨fun hlt => ?_, fun hge => ?_⟩
      · have hi' : i < l.length := by omega
        refine ⟨by decide, by decide, ⟨by unfold capOk; omega, fun k hk => ?_⟩, i + 1, by omega, by omega, [3, 4], ?_, ?_⟩
        · obtain rfl : k = 0 := by omega
          exact ⟨rfl, trivial, trivial⟩
        · dsimp only [go_sem, Option.bind, Option.map, List.append_nil, Nat.beq, List.cons_append, List.nil_append, List.append_eq, List.map_cons, List.map_nil, ite_self, reduceIte]
          refine ⟨fun k hk => ?_, fun k hk => ?_, trivial⟩
          · obtain rfl : k = 0 := by omega
            rfl
          · obtain rfl : k = 0 := by omega
            rfl
        · dsimp only [go_sem, Option.bind, Option.map, List.append_nil, Nat.beq, List.cons_append, List.nil_append, List.append_eq, List.map_cons, List.map_nil, ite_self, reduceIte]
          simp only [w_succ (i := i) (n := l.length) (by omega) (by omega), leS_mk, leL_cons, leL_nil, le_junk, le_int, le_bool, le_nil, leLL_nil, leLL_cons, leH_cons, leH_nil, leH1_box, leH1_own, leH1_gone, le_vs, le_agg, le_tup, le_ptr, le_own, le_xp, le_fn, le_opt, le_val, le_elem, le_nil_own, le_nil_vs, leH_ghost, leL_chunk, leXL_id, bnd_int, bnd_bool, bnd_val, bnd_nil, bnd_junk, bnd_vs, bnd_xp, bnd_agg, bnd_tup, bnd_ptr, bnd_own, bnd_elem, bnd_fn, bnd_iface, bnd_opt, bndL_nil, bndL_cons, lenH_cons, lenH_nil, imp_self, implies_true, true_and, and_true]
          refine ⟨by omega, by simp, fun k hk => ?_⟩
          rcases Nat.lt_or_ge k i with h' | h'
          · rw [if_pos h']
            exact ⟨le_self _ trivial, trivial⟩
          · obtain rfl : k = i := by omega
            rw [if_neg (by omega), Nat.sub_self, oneL_at hi']
            refine ⟨⟨fun _ => rfl, rfl, rfl, rfl, fun j hj => ?_⟩, trivial⟩
            obtain rfl : j = 0 := by omega
            exact ⟨⟨rfl, rfl⟩, trivial⟩
      · obtain rfl : i = l.length := by omega
        have hz : ∀ k, (oneL l.length).getD k default = (preL l.length 0 0).getD k default := fun k => by simp [preL, twoL, rowL]
        have hzl : l.length = (preL l.length 0 0).length := by simp [preL, twoL, rowL, oneL]
        refine Loop.keepF [1, 1, 1] Nat (fun i => [(7, .own 2 0 (preL l.length i 0).length 1), (9, .int .i64 i)]) (fun i => [(2, .own (decide ((preL l.length i 0).length = 0)) 1 (preL l.length i 0).length (fun k => encV ((preL l.length i 0).getD k default)))]) [] (fun i => i ≤ l.length) (fun i => l.length - i) ?_ ?_
        · refine ⟨0, Nat.zero_le _, [], trivial, ?_⟩
          dsimp only [go_sem, Option.bind, Option.map, List.append_nil, Nat.beq, List.cons_append, List.nil_append, List.append_eq, List.map_cons, List.map_nil, ite_self, reduceIte]
          rw [← hzl]
          simp only [← hz, leS_mk, leL_cons, leL_nil, le_junk, le_int, le_bool, le_nil, leLL_nil, leLL_cons, leH_cons, leH_nil, leH1_box, leH1_own, leH1_gone, le_vs, le_agg, le_tup, le_ptr, le_own, le_xp, le_fn, le_opt, le_val, le_elem, le_nil_own, le_nil_vs, leH_ghost, leL_chunk, leXL_id, bnd_int, bnd_bool, bnd_val, bnd_nil, bnd_junk, bnd_vs, bnd_xp, bnd_agg, bnd_tup, bnd_ptr, bnd_own, bnd_elem, bnd_fn, bnd_iface, bnd_opt, bndL_nil, bndL_cons, lenH_cons, lenH_nil, imp_self, implies_true, true_and, and_true] <;> simp [encV, vsI, leL_self, le, leL, leXL, leX, bnd, enc1]
        · rintro i hi
          dsimp only [encV, vsI, Int.toNat_natCast, go_sem, Option.bind, Option.map, List.append_nil, Nat.beq, List.cons_append, List.nil_append, List.append_eq, List.map_cons, List.map_nil, ite_self, reduceIte]
          simp only [true_and, and_true, imp_self, implies_true, decide_eq_true_eq, decide_eq_false_iff_not, Nat.reduceAdd, Nat.reduceLeDiff, Bool.not_not, reduceCtorEq, false_imp_iff, Bool.not_eq_true', Bool.not_eq_false', Bool.false_eq_true, and_self, forall_const, ne_eq, not_false_eq_true, Nat.reduceEqDiff]
          refine ⟨fun hlt => ?_, fun hge => ?_⟩
          · have hi' : i < l.length := by omega
            refine Loop.keepF [1, 1, 1, 3] Nat (fun d => [(7, .own 2 0 (preL l.length i d).length 1), (10, .int .i64 ((i + d : Nat) : Int))]) (fun d => [(2, .own (decide ((preL l.length i d).length = 0)) 1 (preL l.length i d).length (fun k => encV ((preL l.length i d).getD k default)))]) [] (fun d => d ≤ l.length - i) (fun d => l.length - i - d) ?_ ?_
            · refine ⟨0, Nat.zero_le _, [], trivial, ?_⟩
              dsimp only [encV, vsI, go_sem, Option.bind, Option.map, List.append_nil, Nat.beq, List.cons_append, List.nil_append, List.append_eq, List.map_cons, List.map_nil, ite_self, reduceIte]
              simp only [leS_mk, leL_cons, leL_nil, le_junk, le_int, le_bool, le_nil, leLL_nil, leLL_cons, leH_cons, leH_nil, leH1_box, leH1_own, leH1_gone, le_vs, le_agg, le_tup, le_ptr, le_own, le_xp, le_fn, le_opt, le_val, le_elem, le_nil_own, le_nil_vs, leH_ghost, leL_chunk, leXL_id, bnd_int, bnd_bool, bnd_val, bnd_nil, bnd_junk, bnd_vs, bnd_xp, bnd_agg, bnd_tup, bnd_ptr, bnd_own, bnd_elem, bnd_fn, bnd_iface, bnd_opt, bndL_nil, bndL_cons, lenH_cons, lenH_nil, imp_self, implies_true, true_and, and_true] <;> simp
            · rintro d hd
              dsimp only [encV, vsI, Int.toNat_natCast, go_sem, Option.bind, Option.map, List.append_nil, Nat.beq, List.cons_append, List.nil_append, List.append_eq, List.map_cons, List.map_nil, ite_self, reduceIte]
              simp only [true_and, and_true, imp_self, implies_true, decide_eq_true_eq, decide_eq_false_iff_not, Nat.reduceAdd, Nat.reduceLeDiff, Bool.not_not, reduceCtorEq, false_imp_iff, Bool.not_eq_true', Bool.not_eq_false', Bool.false_eq_true, and_self, forall_const, ne_eq, not_false_eq_true, Nat.reduceEqDiff]
              refine ⟨fun hlt2 => ?_, fun hge2 => ?_⟩
              · have hpl := preL_len (n := l.length) (i := i) (d := d) (by omega) (by omega) hll
                refine ⟨by decide, by decide, ⟨by unfold capOk; omega, fun k hk => ?_⟩, d + 1, by omega, by omega, [3, 4], ?_, ?_⟩
                · obtain rfl : k = 0 := by omega
                  exact ⟨rfl, trivial, trivial⟩
                · dsimp only [go_sem, Option.bind, Option.map, List.append_nil, Nat.beq, List.cons_append, List.nil_append, List.append_eq, List.map_cons, List.map_nil, ite_self, reduceIte]
                  refine ⟨fun k hk => ?_, fun k hk => ?_, trivial⟩
                  · match k, hk with
                    | 0, _ => rfl
                    | 1, _ => rfl
                  · obtain rfl : k = 0 := by omega
                    rfl
                · dsimp only [go_sem, Option.bind, Option.map, List.append_nil, Nat.beq, List.cons_append, List.nil_append, List.append_eq, List.map_cons, List.map_nil, ite_self, reduceIte]
                  have hid : ((i + (d + 1) : Nat) : Int) = ((i + d + 1 : Nat) : Int) := by omega
                  simp only [w_succ (i := i + d) (n := l.length) (by omega) (by omega), hid, preL_succ, List.length_append, List.length_cons, List.length_nil, Nat.zero_add, leS_mk, leL_cons, leL_nil, le_junk, le_int, le_bool, le_nil, leLL_nil, leLL_cons, leH_cons, leH_nil, leH1_box, leH1_own, leH1_gone, le_vs, le_agg, le_tup, le_ptr, le_own, le_xp, le_fn, le_opt, le_val, le_elem, le_nil_own, le_nil_vs, leH_ghost, leL_chunk, leXL_id, bnd_int, bnd_bool, bnd_val, bnd_nil, bnd_junk, bnd_vs, bnd_xp, bnd_agg, bnd_tup, bnd_ptr, bnd_own, bnd_elem, bnd_fn, bnd_iface, bnd_opt, bndL_nil, bndL_cons, lenH_cons, lenH_nil, imp_self, implies_true, true_and, and_true]
                  refine ⟨by omega, by simp, fun k hk => ?_⟩
                  rw [getD_app]
                  rcases Nat.lt_or_ge k (preL l.length i d).length with h' | h'
                  · rw [if_pos h', if_pos h']
                    exact ⟨le_self _ trivial, trivial⟩
                  · obtain rfl : k = (preL l.length i d).length := by omega
                    rw [if_neg (by omega), if_neg (by omega), Nat.sub_self]
                    refine ⟨⟨fun _ => rfl, rfl, rfl, rfl, fun j hj => ?_⟩, trivial⟩
                    match j, hj with
                    | 0, _ => exact ⟨⟨rfl, rfl⟩, trivial⟩
                    | 1, _ => exact ⟨⟨rfl, rfl⟩, trivial⟩
              · obtain rfl : d = l.length - i := by omega
                refine ⟨i + 1, by omega, by omega, [], trivial, ?_⟩
                dsimp only [encV, vsI, go_sem, Option.bind, Option.map, List.append_nil, Nat.beq, List.cons_append, List.nil_append, List.append_eq, List.map_cons, List.map_nil, ite_self, reduceIte]
                simp only [← preL_next, w_succ (i := i) (n := l.length) (by omega) (by omega), leS_mk, leL_cons, leL_nil, le_junk, le_int, le_bool, le_nil, leLL_nil, leLL_cons, leH_cons, leH_nil, leH1_box, leH1_own, leH1_gone, le_vs, le_agg, le_tup, le_ptr, le_own, le_xp, le_fn, le_opt, le_val, le_elem, le_nil_own, le_nil_vs, leH_ghost, leL_chunk, leXL_id, bnd_int, bnd_bool, bnd_val, bnd_nil, bnd_junk, bnd_vs, bnd_xp, bnd_agg, bnd_tup, bnd_ptr, bnd_own, bnd_elem, bnd_fn, bnd_iface, bnd_opt, bndL_nil, bndL_cons, lenH_cons, lenH_nil, imp_self, implies_true, true_and, and_true] <;> simp
          · obtain rfl : i = l.length := by omega
            have hpl := preL_len (n := l.length) (i := l.length) (d := 0) (by omega) (by omega) hll
            have hall : preL l.length l.length 0 = allL l.length := by simp [preL, rowL, allL]
            rw [hall] at hpl
            rw [hall]
            dsimp only [PB0_ct24, PB0_ct74, areaC, forcesC, enc2, encP, go_sem, Option.bind, Option.map, List.append_nil, Nat.beq, List.cons_append, List.nil_append, List.append_eq, List.map_cons, List.map_nil, ite_self, reduceIte]
            simp only [true_and, and_true, imp_self, implies_true, decide_eq_true_eq, decide_eq_false_iff_not, Nat.reduceAdd, Nat.reduceLeDiff, Bool.not_not, reduceCtorEq, false_imp_iff, Bool.not_eq_true', Bool.not_eq_false', Bool.false_eq_true, and_self, forall_const, ne_eq, not_false_eq_true, Nat.reduceEqDiff]
            have ha := area_all hct hcl
            refine ⟨c, ⟨lsP_self, by omega, hct⟩, l, ⟨lsP_self, by omega, hv, hw⟩, ?_⟩
            have hB := all_best (a := areaF c) (w := ⟨per, pr, most⟩) (l := l)
            generalize hA : allL l.length = A at *
            refine Loop.keepF [1, 1, 1, 1, 3, 0] Nat (fun i => [(13, vsI (foldB (areaF c) ⟨per, pr, most⟩ l ([], 0) (A.take i)).1), (14, .int .i64 (foldB (areaF c) ⟨per, pr, most⟩ l ([], 0) (A.take i)).2), (15, .int .i64 i)]) (fun i => []) [] (fun i => i ≤ A.length) (fun i => A.length - i) ?_ ?_
            · refine ⟨0, Nat.zero_le _, [], trivial, ?_⟩
              dsimp only [vsI, foldB, List.take_zero, List.foldl_nil, List.isEmpty_nil, List.length_nil, go_sem, Option.bind, Option.map, List.append_nil, Nat.beq, List.cons_append, List.nil_append, List.append_eq, List.map_cons, List.map_nil, ite_self, reduceIte]
              simp only [leS_mk, leL_cons, leL_nil, le_junk, le_int, le_bool, le_nil, leLL_nil, leLL_cons, leH_cons, leH_nil, leH1_box, leH1_own, leH1_gone, le_vs, le_agg, le_tup, le_ptr, le_own, le_xp, le_fn, le_opt, le_val, le_elem, le_nil_own, le_nil_vs, leH_ghost, leL_chunk, leXL_id, bnd_int, bnd_bool, bnd_val, bnd_nil, bnd_junk, bnd_vs, bnd_xp, bnd_agg, bnd_tup, bnd_ptr, bnd_own, bnd_elem, bnd_fn, bnd_iface, bnd_opt, bndL_nil, bndL_cons, lenH_cons, lenH_nil, imp_self, implies_true, true_and, and_true] <;> simp
            · rintro i hi
              dsimp only [PB0_ct75, choiC, vsI, encV, encP, enc1, Int.toNat_natCast, go_sem, Option.bind, Option.map, List.append_nil, Nat.beq, List.cons_append, List.nil_append, List.append_eq, List.map_cons, List.map_nil, ite_self, reduceIte]
              simp only [true_and, and_true, imp_self, implies_true, decide_eq_true_eq, decide_eq_false_iff_not, Nat.reduceAdd, Nat.reduceLeDiff, Bool.not_not, reduceCtorEq, false_imp_iff, Bool.not_eq_true', Bool.not_eq_false', Bool.false_eq_true, and_self, forall_const, ne_eq, not_false_eq_true, Nat.reduceEqDiff, plt_eta]
              refine ⟨fun hlt => ?_, fun hge => ?_⟩
              · have hi' : i < A.length := by omega
                have hst : foldB (areaF c) ⟨per, pr, most⟩ l ([], 0) (A.take (i + 1)) = stepB (areaF c) ⟨per, pr, most⟩ l (foldB (areaF c) ⟨per, pr, most⟩ l ([], 0) (A.take i)) (A.getD i default) := by
                  unfold foldB
                  rw [foldl_take_succ hi']
                have hxl : (A.getD i default).length = 1 ∨ (A.getD i default).length = 2 := all_len (n := l.length) (by rw [hA]; exact getD_mem hi')
                generalize foldB (areaF c) ⟨per, pr, most⟩ l ([], 0) (A.take i) = B at *
                generalize A.getD i default = x at *
                refine ⟨⟨by omega, hlt⟩, hi', l, x, ⟨lsP_self, lsP_self, lsP_self, by omega, by omega, hv, hw, ha.1, ha.2⟩, by decide, by decide, fun _ => ⟨by omega, hlt⟩, fun _ => hi', ?_⟩
                have hcond : ((chcF (areaF c) ⟨per, pr, most⟩ l x).2 && (B.1.isEmpty || decide ((x.length : Int) = B.1.length) && decide ((chcF (areaF c) ⟨per, pr, most⟩ l x).1 < B.2))) = true ↔ ((chcF (areaF c) ⟨per, pr, most⟩ l x).2 = true ∧ (B.1 = [] ∨ x.length = B.1.length ∧ (chcF (areaF c) ⟨per, pr, most⟩ l x).1 < B.2)) := by
                  rw [Bool.and_eq_true, Bool.or_eq_true, Bool.and_eq_true, decide_eq_true_eq, decide_eq_true_eq, List.isEmpty_iff]
                  constructor
                  · rintro ⟨h1, h2 | ⟨h2, h3⟩⟩
                    · exact ⟨h1, .inl h2⟩
                    · exact ⟨h1, .inr ⟨by omega, h3⟩⟩
                  · rintro ⟨h1, h2 | ⟨h2, h3⟩⟩
                    · exact ⟨h1, .inl h2⟩
                    · exact ⟨h1, .inr ⟨by omega, h3⟩⟩
                unfold stepB at hst
                have heta : ((areaF c).1, (areaF c).2) = areaF c := rfl
                rw [heta]
                generalize chcF (areaF c) ⟨per, pr, most⟩ l x = r at *
                have hxe : x.isEmpty = false := by
                  cases x with
                  | nil => simp at hxl
                  | cons _ _ => rfl
                refine ⟨fun a b => by rw [a, decide_eq_true b]; rfl, fun a b => by rw [a, b]; rfl, fun hc => ?_, fun hc => ?_⟩
                · rw [if_pos (hcond.1 hc)] at hst
                  refine ⟨⟨by omega, hlt⟩, hi', i + 1, by omega, by omega, [], trivial, ?_⟩
                  dsimp only [go_sem, Option.bind, Option.map, List.append_nil, Nat.beq, List.cons_append, List.nil_append, List.append_eq, List.map_cons, List.map_nil, ite_self, reduceIte]
                  simp only [w_succ (i := i) (n := A.length) (by omega) (by omega), hst, leS_mk, leL_cons, leL_nil, le_junk, le_int, le_bool, le_nil, leLL_nil, leLL_cons, leH_cons, leH_nil, leH1_box, leH1_own, leH1_gone, le_vs, le_agg, le_tup, le_ptr, le_own, le_xp, le_fn, le_opt, le_val, le_elem, le_nil_own, le_nil_vs, leH_ghost, leL_chunk, leXL_id, bnd_int, bnd_bool, bnd_val, bnd_nil, bnd_junk, bnd_vs, bnd_xp, bnd_agg, bnd_tup, bnd_ptr, bnd_own, bnd_elem, bnd_fn, bnd_iface, bnd_opt, bndL_nil, bndL_cons, lenH_cons, lenH_nil, imp_self, implies_true, true_and, and_true] <;> simp
                · have hn : ¬ (r.2 = true ∧ (B.1 = [] ∨ x.length = B.1.length ∧ r.1 < B.2)) := fun h => by rw [hcond.2 h] at hc; cases hc
                  rw [if_neg hn] at hst
                  refine ⟨i + 1, by omega, by omega, [], trivial, ?_⟩
                  dsimp only [go_sem, Option.bind, Option.map, List.append_nil, Nat.beq, List.cons_append, List.nil_append, List.append_eq, List.map_cons, List.map_nil, ite_self, reduceIte]
                  simp only [w_succ (i := i) (n := A.length) (by omega) (by omega), hst, leS_mk, leL_cons, leL_nil, le_junk, le_int, le_bool, le_nil, leLL_nil, leLL_cons, leH_cons, leH_nil, leH1_box, leH1_own, leH1_gone, le_vs, le_agg, le_tup, le_ptr, le_own, le_xp, le_fn, le_opt, le_val, le_elem, le_nil_own, le_nil_vs, leH_ghost, leL_chunk, leXL_id, bnd_int, bnd_bool, bnd_val, bnd_nil, bnd_junk, bnd_vs, bnd_xp, bnd_agg, bnd_tup, bnd_ptr, bnd_own, bnd_elem, bnd_fn, bnd_iface, bnd_opt, bndL_nil, bndL_cons, lenH_cons, lenH_nil, imp_self, implies_true, true_and, and_true] <;> simp
              · obtain rfl : i = A.length := by omega
                rw [List.take_length, hB]
                exact ans_vsI h
  · exact h.1.elim
end Go.Proofs.YtngccjllkgpjmaaGreat

/- Chests, walked: the reference's plan; the law of plans. -/
/- Chests, walked: the reference's plan; the law of plans. -/
set_option linter.all false
namespace Go.Proofs.YtngccjllkgpjmaaGreat
open Go Go.Vx
set_option maxRecDepth 100000
set_option maxHeartbeats 4000000

def v48 : VF := { ntmps := 16, res := [.tmp 2], body :=
 (.seq (.region [u1 1 .box [.tm 0],
 u1 2 .mov [.cn (.bool false)]])
 (.seq (.region [u1 3 (.fieldAddr 0) [.tm 1],
 u1 4 (.load false 1) [.tm 3],
 u1 5 (.call 38) [.tm 4, .cn (.int .i64 10), .cn (.int .i64 1000)],
 u1 6 .mov [.tm 5],
 u2 7 6 true (.fieldAddr 1) [.tm 1],
 u2 8 6 true (.load false 1) [.tm 7],
 u2 9 6 true (.call 31) [.tm 8],
 u1 10 .and [.tm 6, .tm 9],
 u1 11 .mov [.tm 10],
 u2 12 11 true (.fieldAddr 2) [.tm 1],
 u2 13 11 true (.load false 1) [.tm 12],
 u2 14 11 true (.call 38) [.tm 13, .cn (.int .i64 0), .cn (.int .i64 1000000000)],
 u1 15 .and [.tm 11, .tm 14],
 u1 2 .mov [.tm 15]])
 .ret)) }
theorem v48_is : vfunc Tryz.prog Tryz.f48 = some v48 := by kernel_rfl
def v15 : VF := { ntmps := 79, res := [.tmp 6, .tmp 7], body :=
 (.seq (.region [u1 5 .box [.tm 2],
 u1 6 .mov [.cn .nil],
 u1 7 .mov [.cn (.int .i64 0)]])
 (.seq (.region [u1 14 .mov [.tm 0],
 u1 15 .len [.tm 14],
 u1 16 (.cmp .gtr) [.tm 15, .cn (.int .i64 61)],
 u1 17 .mov [.tm 16],
 u2 18 17 false .mov [.tm 1],
 u2 19 17 false .len [.tm 18],
 u2 20 17 false (.cmp .gtr) [.tm 19, .cn (.int .i64 40)],
 u1 21 .or [.tm 17, .tm 20],
 u1 8 .mov [.tm 21]])
 (.seq (.seq (.region [u1 9 .mov [.cn (.int .i64 0)]])
 (.block 0 (.loop (.seq (.seq (.region [u1 22 .mov [.tm 9],
 u1 23 .mov [.tm 0],
 u1 24 .len [.tm 23],
 u1 25 (.cmp .lss) [.tm 22, .tm 24],
 u1 26 .mov [.tm 25],
 u2 27 26 true .mov [.tm 8],
 u2 28 26 true .not [.tm 27],
 u1 29 .and [.tm 26, .tm 28]])
 (.cond (.tm 29) .skip
  (.exit 0)))
 (.seq (.block 1 (.region [u1 32 .mov [.tm 0],
 u1 33 .mov [.tm 9],
 u1 34 (.idxAddr 1) [.tm 32, .tm 33],
 u1 35 (.fieldAddr 0) [.tm 34],
 u1 36 (.load false 1) [.tm 35],
 u1 37 .len [.tm 36],
 u1 38 (.cmp .gtr) [.tm 37, .cn (.int .i64 24)],
 u1 8 .mov [.tm 38]]))
 (.region [u1 30 .mov [.tm 9],
 u1 31 (.ari .add) [.tm 30, .cn (.int .i64 1)],
 u1 9 .mov [.tm 31]]))))))
 (.seq (.seq (.region [u1 39 .mov [.tm 8]])
 (.cond (.tm 39) (.seq (.region [u1 6 .mov [.cn .nil],
 u1 7 .mov [.cn (.int .i64 3)]])
 .ret)
  .skip))
 (.seq (.region [u1 40 .mov [.tm 1],
 u1 41 (.call 47) [.tm 40],
 u1 42 .mov [.tm 41],
 u2 43 42 true (.load true 3) [.tm 5],
 u2 44 42 true (.call 48) [.tm 43],
 u1 45 .and [.tm 42, .tm 44],
 u1 10 .mov [.tm 45]])
 (.seq (.seq (.region [u1 11 .mov [.cn (.int .i64 0)]])
 (.block 2 (.loop (.seq (.seq (.region [u1 46 .mov [.tm 11],
 u1 47 .mov [.tm 0],
 u1 48 .len [.tm 47],
 u1 49 (.cmp .lss) [.tm 46, .tm 48]])
 (.cond (.tm 49) .skip
  (.exit 2)))
 (.seq (.block 3 (.region [u1 52 .mov [.tm 10],
 u1 53 .mov [.tm 52],
 u2 54 53 true .mov [.tm 0],
 u2 55 53 true .mov [.tm 11],
 u2 56 53 true (.idxAddr 1) [.tm 54, .tm 55],
 u2 57 53 true (.load true 1) [.tm 56],
 u2 58 53 true (.call 23) [.tm 57],
 u1 59 .and [.tm 53, .tm 58],
 u1 10 .mov [.tm 59]]))
 (.region [u1 50 .mov [.tm 11],
 u1 51 (.ari .add) [.tm 50, .cn (.int .i64 1)],
 u1 11 .mov [.tm 51]]))))))
 (.seq (.seq (.region [u1 60 .mov [.tm 10],
 u1 61 .not [.tm 60]])
 (.cond (.tm 61) (.seq (.region [u1 6 .mov [.cn .nil],
 u1 7 .mov [.cn (.int .i64 2)]])
 .ret)
  .skip))
 (.seq (.region [u1 12 .mov [.cn .nil]])
 (.seq (.seq (.region [u1 13 .mov [.cn (.int .i64 0)]])
 (.block 4 (.loop (.seq (.seq (.region [u1 62 .mov [.tm 13],
 u1 63 .mov [.tm 0],
 u1 64 .len [.tm 63],
 u1 65 (.cmp .lss) [.tm 62, .tm 64]])
 (.cond (.tm 65) .skip
  (.exit 4)))
 (.seq (.block 5 (.draw [] [w1 68 .mov [.tm 12],
 w1 69 .mov [.tm 0],
 w1 70 .mov [.tm 13],
 w1 71 (.idxAddr 1) [.tm 69, .tm 70],
 w1 72 (.load true 1) [.tm 71],
 w1 73 .mov [.tm 1],
 w1 74 (.load true 3) [.tm 5],
 w1 75 (.call 49) [.tm 72, .tm 73, .tm 74],
 w1 76 (.buildSlice 1 1 [.nil] [(0, 1)]) [.tm 75],
 w1 77 (.append 1 24 [.nil]) [.tm 68, .tm 76],
 w1 12 .mov [.tm 77]]))
 (.region [u1 66 .mov [.tm 13],
 u1 67 (.ari .add) [.tm 66, .cn (.int .i64 1)],
 u1 13 .mov [.tm 67]]))))))
 (.seq (.region [u1 78 .mov [.tm 12],
 u1 6 .mov [.tm 78],
 u1 7 .mov [.cn (.int .i64 0)]])
 .ret)))))))))) }
theorem v15_is : vfunc Tryz.prog Tryz.f15 = some v15 := by kernel_rfl
def v4 : VF := { ntmps := 97, res := [.tmp 6], body :=
 (.seq (.region [u1 5 .box [.tm 2],
 u1 6 .mov [.cn (.bool false)]])
 (.seq (.seq (.region [u1 13 .mov [.tm 0],
 u1 14 .len [.tm 13],
 u1 15 (.cmp .gtr) [.tm 14, .cn (.int .i64 6)],
 u1 16 .mov [.tm 15],
 u2 17 16 true .mov [.tm 0],
 u2 18 16 true .len [.tm 17],
 u2 19 16 true (.cmp .leq) [.tm 18, .cn (.int .i64 61)],
 u1 20 .and [.tm 16, .tm 19],
 u1 21 .mov [.tm 20],
 u2 22 21 false .mov [.tm 0],
 u2 23 21 false .len [.tm 22],
 u2 24 21 false (.cmp .gtr) [.tm 23, .cn (.int .i64 70)],
 u1 25 .or [.tm 21, .tm 24],
 u1 26 .mov [.tm 25],
 u2 27 26 false .mov [.tm 1],
 u2 28 26 false .len [.tm 27],
 u2 29 26 false (.cmp .gtr) [.tm 28, .cn (.int .i64 10)],
 u2 30 26 false .mov [.tm 29],
 u2 31 30 true .mov [.tm 1],
 u2 32 30 true .len [.tm 31],
 u2 33 30 true (.cmp .leq) [.tm 32, .cn (.int .i64 40)],
 u2 34 26 false .and [.tm 30, .tm 33],
 u1 35 .or [.tm 26, .tm 34],
 u1 36 .mov [.tm 35],
 u2 37 36 false .mov [.tm 1],
 u2 38 36 false .len [.tm 37],
 u2 39 36 false (.cmp .gtr) [.tm 38, .cn (.int .i64 50)],
 u1 40 .or [.tm 36, .tm 39]])
 (.cond (.tm 40) (.seq (.region [u1 41 (.call 5) [],
 u1 6 .mov [.tm 41]])
 .ret)
  .skip))
 (.seq (.seq (.region [u1 7 .mov [.cn (.int .i64 0)]])
 (.block 0 (.loop (.seq (.seq (.region [u1 42 .mov [.tm 7],
 u1 43 .mov [.tm 0],
 u1 44 .len [.tm 43],
 u1 45 (.cmp .lss) [.tm 42, .tm 44]])
 (.cond (.tm 45) .skip
  (.exit 0)))
 (.seq (.block 1 (.seq (.region [u1 48 .mov [.tm 0],
 u1 49 .mov [.tm 7],
 u1 50 (.idxAddr 1) [.tm 48, .tm 49],
 u1 51 (.fieldAddr 0) [.tm 50],
 u1 52 (.load false 1) [.tm 51],
 u1 53 .len [.tm 52],
 u1 54 (.cmp .gtr) [.tm 53, .cn (.int .i64 30)]])
 (.cond (.tm 54) (.seq (.region [u1 55 (.call 5) [],
 u1 6 .mov [.tm 55]])
 .ret)
  .skip)))
 (.region [u1 46 .mov [.tm 7],
 u1 47 (.ari .add) [.tm 46, .cn (.int .i64 1)],
 u1 7 .mov [.tm 47]]))))))
 (.seq (.region [u1 57 .mov [.tm 0],
 u1 58 .mov [.tm 1],
 u1 59 (.load true 3) [.tm 5],
 u1 60 (.call 14) [.tm 57, .tm 58, .tm 59],
 u1 56 .mov [.tm 60],
 u1 61 (.ext 0) [.tm 56],
 u1 62 (.ext 1) [.tm 56],
 u1 8 .mov [.tm 61],
 u1 9 .mov [.tm 62]])
 (.seq (.region [u1 64 .mov [.tm 0],
 u1 65 .mov [.tm 1],
 u1 66 (.load true 3) [.tm 5],
 u1 67 (.call 15) [.tm 64, .tm 65, .tm 66],
 u1 63 .mov [.tm 67],
 u1 68 (.ext 0) [.tm 63],
 u1 69 (.ext 1) [.tm 63],
 u1 10 .mov [.tm 68],
 u1 11 .mov [.tm 69]])
 (.seq (.seq (.region [u1 70 .mov [.tm 8],
 u1 71 .len [.tm 70],
 u1 72 .mov [.tm 10],
 u1 73 .len [.tm 72],
 u1 74 (.cmp .neq) [.tm 71, .tm 73],
 u1 75 .mov [.tm 74],
 u2 76 75 false .mov [.tm 9],
 u2 77 75 false .mov [.tm 11],
 u2 78 75 false (.cmp .neq) [.tm 76, .tm 77],
 u1 79 .or [.tm 75, .tm 78]])
 (.cond (.tm 79) (.seq (.region [u1 6 .mov [.cn (.bool false)]])
 .ret)
  .skip))
 (.seq (.seq (.region [u1 12 .mov [.cn (.int .i64 0)]])
 (.block 2 (.loop (.seq (.seq (.region [u1 80 .mov [.tm 12],
 u1 81 .mov [.tm 8],
 u1 82 .len [.tm 81],
 u1 83 (.cmp .lss) [.tm 80, .tm 82]])
 (.cond (.tm 83) .skip
  (.exit 2)))
 (.seq (.block 3 (.seq (.draw [] [w1 86 .mov [.tm 8],
 w1 87 .mov [.tm 12],
 w1 88 (.idxAddr 1) [.tm 86, .tm 87],
 w1 89 (.load false 1) [.tm 88],
 w1 90 .mov [.tm 10],
 w1 91 .mov [.tm 12],
 w1 92 (.idxAddr 1) [.tm 90, .tm 91],
 w1 93 (.load false 1) [.tm 92],
 w1 94 (.call 16) [.tm 89, .tm 93],
 w1 95 .not [.tm 94]])
 (.cond (.tm 95) (.seq (.region [u1 6 .mov [.cn (.bool false)]])
 .ret)
  .skip)))
 (.region [u1 84 .mov [.tm 12],
 u1 85 (.ari .add) [.tm 84, .cn (.int .i64 1)],
 u1 12 .mov [.tm 85]]))))))
 (.seq (.region [u1 96 (.call 5) [],
 u1 6 .mov [.tm 96]])
 .ret)))))))) }
theorem v4_is : vfunc Tryz.prog Tryz.f4 = some v4 := by kernel_rfl


def wishC : Ctr := { alias := false, of := fun l => match l with
  | [.agg [.int .i64 per, .int .i64 pr, .int .i64 most]] => .fin (.bool (!wshB ⟨per, pr, most⟩)) []
  | _ => noC }
def PC0 : Env := { ct := fun n => match n with | 38 => some frmC | 31 => some preC | _ => none, fn := fun _ => none, meth := fun _ _ => none }
theorem PC0_ct38 : PC0.ct 38 = some frmC := rfl
theorem PC0_ct31 : PC0.ct 31 = some preC := rfl
theorem PC0_ok : EnvOk Tryz.prog PC0 := by
  refine ⟨fun f c h => ?_, fun f vf h => ?_, (fun _ _ _ h => by cases h), by kernel_rfl⟩
  · simp only [PC0] at h
    split at h
    · cases h; exact ⟨frm_ok, Tryz.f38, Tryz.func38, by kernel_rfl, by kernel_rfl⟩
    · cases h; exact ⟨pre_ok, Tryz.f31, Tryz.func31, by kernel_rfl, by kernel_rfl⟩
    · cases h
  · cases h

theorem wish_ok : wishC.ok Tryz.prog 48 := by
  refine contract Tryz.func48 v48_is PC0_ok 100 wishC fun args k h => ⟨args, ?_⟩
  simp only [wishC] at h
  split at h
  · rename_i per pr most
    refine ⟨by simp [leL, le], ?_⟩
    have h : k (.bool (!wshB ⟨per, pr, most⟩)) [] := h
    dsimp only [v48, PC0_ct38, PC0_ct31, frmC, preC, go_sem, Option.bind, Option.map, List.append_nil, Nat.beq, List.cons_append, List.nil_append, List.append_eq, List.map_cons, List.map_nil, ite_self, reduceIte]
    simp only [true_and, and_true, imp_self, implies_true, decide_eq_true_eq, decide_eq_false_iff_not, Nat.reduceAdd, Nat.reduceLeDiff, Bool.not_not, reduceCtorEq, false_imp_iff, Bool.not_eq_true', Bool.not_eq_false', Bool.false_eq_true, and_self, forall_const, ne_eq, not_false_eq_true, Nat.reduceEqDiff]
    unfold wshB at h
    rw [Bool.not_or, Bool.not_or, nout, nout] at h
    exact ans_bool (by simpa [nout] using h)
  · exact h.1.elim

theorem isT {q : Chn} : isF true q = decide ((24 : Int) < (q.2.length : Int)) := chkT_3
theorem isN {q : Chn} (h : isF true q = false) : isF false q = q.2.any toeB := by
  unfold isF at h ⊢
  simp only [if_true, decide_eq_false_iff_not] at h
  simp only [Bool.false_eq_true, if_false]
  rw [chkT_n h, Bool.not_not]
def rtF (b : Bool) (cs : List Chn) (i : Nat) : Bool := b && (cs.take i).all fun q => !(q.2.any toeB)
theorem rtF_succ {b : Bool} {cs : List Chn} {i : Nat} (h : i < cs.length) : rtF b cs (i + 1) = (rtF b cs i && !((cs.getD i default).2.any toeB)) := by
  unfold rtF
  rw [take_succ_eq h, List.all_append]
  simp [Bool.and_assoc]
theorem rt_all {b : Bool} {cs : List Chn} (h : cs.any (isF true) = false) : rtF b cs cs.length = (b && !(cs.any (isF false))) := by
  unfold rtF
  rw [List.take_length]
  congr 1
  rw [Bool.eq_iff_iff, List.all_eq_true, Bool.not_eq_true', List.any_eq_false]
  have ht := List.any_eq_false.1 h
  constructor
  · intro hh q hq
    have := hh q hq
    rw [isN (by simpa using ht q hq)]
    simpa using this
  · intro hh q hq
    have := hh q hq
    rw [isN (by simpa using ht q hq)] at this
    simpa using this
def PC1 : Env := { ct := fun n => match n with | 47 => some palsC | 48 => some wishC | 23 => some toesC | 49 => some rbestC | _ => none, fn := fun _ => none, meth := fun _ _ => none }
theorem PC1_ct47 : PC1.ct 47 = some palsC := rfl
theorem PC1_ct48 : PC1.ct 48 = some wishC := rfl
theorem PC1_ct23 : PC1.ct 23 = some toesC := rfl
theorem PC1_ct49 : PC1.ct 49 = some rbestC := rfl
theorem PC1_ok : EnvOk Tryz.prog PC1 := by
  refine ⟨fun f c h => ?_, fun f vf h => ?_, (fun _ _ _ h => by cases h), by kernel_rfl⟩
  · simp only [PC1] at h
    split at h
    · cases h; exact ⟨pals_ok, Tryz.f47, Tryz.func47, by kernel_rfl, by kernel_rfl⟩
    · cases h; exact ⟨wish_ok, Tryz.f48, Tryz.func48, by kernel_rfl, by kernel_rfl⟩
    · cases h; exact ⟨toes_ok, Tryz.f23, Tryz.func23, by kernel_rfl, by kernel_rfl⟩
    · cases h; exact ⟨best_ok, Tryz.f49, Tryz.func49, by kernel_rfl, by kernel_rfl⟩
    · cases h
  · cases h

theorem rplan_ok : plnC.ok Tryz.prog 15 := by
  refine contract Tryz.func15 v15_is PC1_ok 500 plnC fun args k h => ?_
  simp only [plnC] at h
  split at h
  · rename_i t z n sz get t' z' n' sz' get' per pr most
    obtain ⟨cs, l, ⟨⟨rfl, rfl, hg⟩, ⟨rfl, rfl, hg'⟩, hcl, hll, hin⟩, h⟩ := h
    refine ⟨[.vs t z cs.length 1 (fun k => encC (cs.getD k default)), .vs t' z' l.length 4 (fun k => encP (l.getD k default)), .agg [.int .i64 per, .int .i64 pr, .int .i64 most]], ⟨by simpa [le] using hg, by simpa [le] using hg', by simp [le, leL], trivial⟩, ?_⟩
    have h : ∀ z, k (.tup [vsV z (plnF cs l ⟨per, pr, most⟩).1, .int .i64 (plnF cs l ⟨per, pr, most⟩).2]) [] := h
    have e61 : decide ((61 : Int) < (cs.length : Int)) = decide (61 < cs.length) := by rw [decide_eq_decide]; omega
    have e40 : decide ((40 : Int) < (l.length : Int)) = decide (40 < l.length) := by rw [decide_eq_decide]; omega
    dsimp only [v15, encC, encP, enc2, Int.toNat_natCast, go_sem, Option.bind, Option.map, List.append_nil, Nat.beq, List.cons_append, List.nil_append, List.append_eq, List.map_cons, List.map_nil, ite_self, reduceIte]
    simp only [true_and, and_true, imp_self, implies_true, decide_eq_true_eq, decide_eq_false_iff_not, Nat.reduceAdd, Nat.reduceLeDiff, Bool.not_not, reduceCtorEq, false_imp_iff, Bool.not_eq_true', Bool.not_eq_false', Bool.false_eq_true, and_self, forall_const, ne_eq, not_false_eq_true, Nat.reduceEqDiff, e61, e40]
    generalize hbase : (decide (61 < cs.length) || decide (40 < l.length)) = base
    refine Loop.keep [0, 0, 3] (Nat × Bool) (fun s => [(8, .bool s.2), (9, .int .i64 s.1)]) (fun _ => []) [] (fun s => s.1 ≤ cs.length ∧ (s.2 = true → (base || cs.any (isF true)) = true) ∧ (s.2 = false → base = false ∧ ∀ j, j < s.1 → isF true (cs.getD j default) = false)) (fun s => cs.length - s.1) ?_ ?_
    · refine ⟨(0, base), ⟨Nat.zero_le _, fun h => by rw [show base = true from h]; rfl, fun h => ⟨h, fun j hj => by omega⟩⟩, ?_⟩
      dsimp only [go_sem, Option.bind, Option.map, List.append_nil, Nat.beq, List.cons_append, List.nil_append, List.append_eq, List.map_cons, List.map_nil, ite_self, reduceIte]
      simp only [leS_mk, leL_cons, leL_nil, le_junk, le_int, le_bool, le_nil, leLL_nil, leLL_cons, leH_cons, leH_nil, leH1_box, leH1_own, leH1_gone, le_vs, le_agg, le_tup, le_ptr, le_own, le_xp, le_fn, le_opt, le_val, le_elem, le_nil_own, le_nil_vs, leH_ghost, leL_chunk, leXL_id, bnd_int, bnd_bool, bnd_val, bnd_nil, bnd_junk, bnd_vs, bnd_xp, bnd_agg, bnd_tup, bnd_ptr, bnd_own, bnd_elem, bnd_fn, bnd_iface, bnd_opt, bndL_nil, bndL_cons, lenH_cons, lenH_nil, imp_self, implies_true, true_and, and_true] <;> simp
    · rintro ⟨i, lg⟩ ⟨hi, hlt, hlf⟩
      dsimp only at hi hlt hlf
      dsimp only [Int.toNat_natCast, go_sem, Option.bind, Option.map, List.append_nil, Nat.beq, List.cons_append, List.nil_append, List.append_eq, List.map_cons, List.map_nil, ite_self, reduceIte]
      simp only [true_and, and_true, imp_self, implies_true, decide_eq_true_eq, decide_eq_false_iff_not, Nat.reduceAdd, Nat.reduceLeDiff, Bool.not_not, reduceCtorEq, false_imp_iff, Bool.not_eq_true', Bool.not_eq_false', Bool.false_eq_true, and_self, forall_const, ne_eq, not_false_eq_true, Nat.reduceEqDiff]
      refine ⟨fun hc => ?_, fun hc => ⟨fun hl => ?_, fun hl => ?_⟩⟩
      · rw [Bool.and_eq_true, decide_eq_true_eq, Bool.not_eq_true'] at hc
        obtain ⟨hlt', rfl⟩ := hc
        have hi' : i < cs.length := by omega
        obtain ⟨hb, hj⟩ := hlf rfl
        refine ⟨⟨by omega, hlt'⟩, (i + 1, isF true (cs.getD i default)), ⟨by omega, fun hh => ?_, fun hh => ⟨hb, fun j hj' => ?_⟩⟩, by dsimp only; omega, ?_⟩
        · have : cs.any (isF true) = true := List.any_eq_true.2 ⟨_, getD_mem hi', hh⟩
          rw [this, Bool.or_true]
        · rcases Nat.lt_or_ge j i with h' | h'
          · exact hj j h'
          · obtain rfl : j = i := by have : j < i + 1 := hj'; omega
            exact hh
        · rw [isT]
          simp only [w_succ (i := i) (n := cs.length) (by omega) (by omega), leS_mk, leL_cons, leL_nil, le_junk, le_int, le_bool, le_nil, leLL_nil, leLL_cons, leH_cons, leH_nil, leH1_box, leH1_own, leH1_gone, le_vs, le_agg, le_tup, le_ptr, le_own, le_xp, le_fn, le_opt, le_val, le_elem, le_nil_own, le_nil_vs, leH_ghost, leL_chunk, leXL_id, bnd_int, bnd_bool, bnd_val, bnd_nil, bnd_junk, bnd_vs, bnd_xp, bnd_agg, bnd_tup, bnd_ptr, bnd_own, bnd_elem, bnd_fn, bnd_iface, bnd_opt, bndL_nil, bndL_cons, lenH_cons, lenH_nil, imp_self, implies_true, true_and, and_true] <;> simp
      · subst hl
        have := hlt rfl
        rw [← hbase] at this
        have h := h true
        rw [plnF, if_pos this] at h
        exact ans_nilV h
      · subst hl
        obtain ⟨hb, hj⟩ := hlf rfl
        obtain rfl : i = cs.length := by
          rw [Bool.not_false, Bool.and_true, decide_eq_false_iff_not] at hc
          omega
        have hany : cs.any (isF true) = false := List.any_eq_false.2 fun q hq => by
          obtain ⟨j, hj', rfl⟩ := mem_getD hq
          rw [hj j hj']; simp
        have hn1 : ¬ (decide (61 < cs.length) || decide (40 < l.length) || cs.any (isF true)) = true := by
          rw [hbase, hb, hany]; simp
        rw [hb, Bool.or_eq_false_iff, decide_eq_false_iff_not, decide_eq_false_iff_not] at hbase
        rw [plnF, if_neg hn1] at h
        dsimp only [PC1_ct47, PC1_ct48, palsC, wishC, go_sem, Option.bind, Option.map, List.append_nil, Nat.beq, List.cons_append, List.nil_append, List.append_eq, List.map_cons, List.map_nil, ite_self, reduceIte]
        simp only [true_and, and_true, imp_self, implies_true, decide_eq_true_eq, decide_eq_false_iff_not, Nat.reduceAdd, Nat.reduceLeDiff, Bool.not_not, reduceCtorEq, false_imp_iff, Bool.not_eq_true', Bool.not_eq_false', Bool.false_eq_true, and_self, forall_const, ne_eq, not_false_eq_true, Nat.reduceEqDiff]
        refine ⟨l, ⟨lsP_self, hll⟩, ?_⟩
        generalize hbb : (!l.any palB && !wshB ⟨per, pr, most⟩) = bb
        refine Loop.keep [0, 0, 3] Nat (fun i => [(10, .bool (rtF bb cs i)), (11, .int .i64 i)]) (fun _ => []) [] (fun i => i ≤ cs.length) (fun i => cs.length - i) ?_ ?_
        · refine ⟨0, Nat.zero_le _, ?_⟩
          dsimp only [go_sem, Option.bind, Option.map, List.append_nil, Nat.beq, List.cons_append, List.nil_append, List.append_eq, List.map_cons, List.map_nil, ite_self, reduceIte]
          simp only [rtF, List.take_zero, List.all_nil, Bool.and_true, leS_mk, leL_cons, leL_nil, le_junk, le_int, le_bool, le_nil, leLL_nil, leLL_cons, leH_cons, leH_nil, leH1_box, leH1_own, leH1_gone, le_vs, le_agg, le_tup, le_ptr, le_own, le_xp, le_fn, le_opt, le_val, le_elem, le_nil_own, le_nil_vs, leH_ghost, leL_chunk, leXL_id, bnd_int, bnd_bool, bnd_val, bnd_nil, bnd_junk, bnd_vs, bnd_xp, bnd_agg, bnd_tup, bnd_ptr, bnd_own, bnd_elem, bnd_fn, bnd_iface, bnd_opt, bndL_nil, bndL_cons, lenH_cons, lenH_nil, imp_self, implies_true, true_and, and_true] <;> simp
        · rintro i hi
          dsimp only [PC1_ct23, toesC, Int.toNat_natCast, go_sem, Option.bind, Option.map, List.append_nil, Nat.beq, List.cons_append, List.nil_append, List.append_eq, List.map_cons, List.map_nil, ite_self, reduceIte]
          simp only [true_and, and_true, imp_self, implies_true, decide_eq_true_eq, decide_eq_false_iff_not, Nat.reduceAdd, Nat.reduceLeDiff, Bool.not_not, reduceCtorEq, false_imp_iff, Bool.not_eq_true', Bool.not_eq_false', Bool.false_eq_true, and_self, forall_const, ne_eq, not_false_eq_true, Nat.reduceEqDiff]
          refine ⟨fun hc2 => ?_, fun hc2 => ⟨fun hr => ?_, fun hr => ?_⟩⟩
          · have hi' : i < cs.length := by omega
            refine ⟨fun _ => ⟨by omega, hc2⟩, (cs.getD i default).2, fun _ => ⟨lsP_self, hin _ (getD_mem hi')⟩, i + 1, by omega, by omega, ?_⟩
            simp only [w_succ (i := i) (n := cs.length) (by omega) (by omega), rtF_succ hi', leS_mk, leL_cons, leL_nil, le_junk, le_int, le_bool, le_nil, leLL_nil, leLL_cons, leH_cons, leH_nil, leH1_box, leH1_own, leH1_gone, le_vs, le_agg, le_tup, le_ptr, le_own, le_xp, le_fn, le_opt, le_val, le_elem, le_nil_own, le_nil_vs, leH_ghost, leL_chunk, leXL_id, bnd_int, bnd_bool, bnd_val, bnd_nil, bnd_junk, bnd_vs, bnd_xp, bnd_agg, bnd_tup, bnd_ptr, bnd_own, bnd_elem, bnd_fn, bnd_iface, bnd_opt, bndL_nil, bndL_cons, lenH_cons, lenH_nil, imp_self, implies_true, true_and, and_true] <;> simp
          · obtain rfl : i = cs.length := by omega
            rw [rt_all hany, ← hbb] at hr
            have hc : (l.any palB || wshB ⟨per, pr, most⟩ || cs.any (isF false)) = true := by
              cases h1 : l.any palB <;> cases h2 : wshB ⟨per, pr, most⟩ <;> cases h3 : cs.any (isF false) <;> simp [h1, h2, h3] at hr ⊢
            have h := h true
            rw [if_pos hc] at h
            exact ans_nilV h
          · obtain rfl : i = cs.length := by omega
            rw [rt_all hany, ← hbb, Bool.and_eq_true, Bool.and_eq_true, Bool.not_eq_true', Bool.not_eq_true', Bool.not_eq_true'] at hr
            obtain ⟨⟨hv, hw⟩, hF⟩ := hr
            have hc : ¬ (l.any palB || wshB ⟨per, pr, most⟩ || cs.any (isF false)) = true := by rw [hv, hw, hF]; simp
            rw [if_neg hc] at h
            have hv' := any_f hv
            have hq : ∀ i, i < cs.length → (cs.getD i default).2.length ≤ 24 ∧ ∀ t ∈ (cs.getD i default).2, toeB t = false := fun i hi => by
              have h1 := any_f hF _ (getD_mem hi)
              unfold isF at h1
              exact chkT_0 (by simpa using h1)
            refine Loop.keep [0, 0, 3] Nat (fun i => [(12, .own 1 0 i 1), (13, .int .i64 i)]) (fun i => [(1, .own (decide (i = 0)) 1 i (fun k => encV (bestF (areaF (cs.getD k default).2) ⟨per, pr, most⟩ l)))]) [.gone] (fun i => i ≤ cs.length) (fun i => cs.length - i) ?_ ?_
            · refine ⟨0, Nat.zero_le _, ?_⟩
              dsimp only [go_sem, Option.bind, Option.map, List.append_nil, Nat.beq, List.cons_append, List.nil_append, List.append_eq, List.map_cons, List.map_nil, ite_self, reduceIte]
              simp only [leH_ghost, leS_mk, leL_cons, leL_nil, le_junk, le_int, le_bool, le_nil, leLL_nil, leLL_cons, leH_cons, leH_nil, leH1_box, leH1_own, leH1_gone, le_vs, le_agg, le_tup, le_ptr, le_own, le_xp, le_fn, le_opt, le_val, le_elem, le_nil_own, le_nil_vs, leH_ghost, leL_chunk, leXL_id, bnd_int, bnd_bool, bnd_val, bnd_nil, bnd_junk, bnd_vs, bnd_xp, bnd_agg, bnd_tup, bnd_ptr, bnd_own, bnd_elem, bnd_fn, bnd_iface, bnd_opt, bndL_nil, bndL_cons, lenH_cons, lenH_nil, imp_self, implies_true, true_and, and_true] <;> simp
            · rintro i hi
              dsimp only [PC1_ct49, rbestC, encV, vsI, Int.toNat_natCast, go_sem, Option.bind, Option.map, List.append_nil, Nat.beq, List.cons_append, List.nil_append, List.append_eq, List.map_cons, List.map_nil, ite_self, reduceIte]
              simp only [true_and, and_true, imp_self, implies_true, decide_eq_true_eq, decide_eq_false_iff_not, Nat.reduceAdd, Nat.reduceLeDiff, Bool.not_not, reduceCtorEq, false_imp_iff, Bool.not_eq_true', Bool.not_eq_false', Bool.false_eq_true, and_self, forall_const, ne_eq, not_false_eq_true, Nat.reduceEqDiff]
              refine ⟨fun hlt3 => ?_, fun hge3 => ?_⟩
              · have hi' : i < cs.length := by omega
                obtain ⟨q1, q2⟩ := hq i hi'
                refine ⟨⟨by omega, hlt3⟩, (cs.getD i default).2, l, ⟨lsP_self, lsP_self, by omega, q2, by omega, hv', hw⟩, ?_⟩
                refine ⟨by decide, ⟨by unfold capOk; omega, fun k hk => ?_⟩, i + 1, by omega, by omega, ?_⟩
                · obtain rfl : k = 0 := by omega
                  exact ⟨rfl, trivial, trivial⟩
                · simp only [w_succ (i := i) (n := cs.length) (by omega) (by omega), leS_mk, leL_cons, leL_nil, le_junk, le_int, le_bool, le_nil, leLL_nil, leLL_cons, leH_cons, leH_nil, leH1_box, leH1_own, leH1_gone, le_vs, le_agg, le_tup, le_ptr, le_own, le_xp, le_fn, le_opt, le_val, le_elem, le_nil_own, le_nil_vs, leH_ghost, leL_chunk, leXL_id, bnd_int, bnd_bool, bnd_val, bnd_nil, bnd_junk, bnd_vs, bnd_xp, bnd_agg, bnd_tup, bnd_ptr, bnd_own, bnd_elem, bnd_fn, bnd_iface, bnd_opt, bndL_nil, bndL_cons, lenH_cons, lenH_nil, imp_self, implies_true, true_and, and_true]
                  refine ⟨by omega, by simp, fun k hk => ?_⟩
                  rcases Nat.lt_or_ge k i with h' | h'
                  · rw [if_pos h']
                    exact ⟨le_self _ trivial, trivial⟩
                  · obtain rfl : k = i := by omega
                    rw [if_neg (by omega), Nat.sub_self]
                    exact ⟨le_self _ trivial, trivial⟩
              · obtain rfl : i = cs.length := by omega
                refine ans_le (show k _ [] from h (decide (cs.length = 0))) ?_ (fun _ => by simp [vsV, vsI, enc1, freshS, freshL])
                simp only [vsV, expo, view, viewL, getH]
                refine ⟨⟨fun h => h, rfl, by simp, rfl, fun j hj => ?_⟩, ⟨rfl, rfl⟩, trivial⟩
                have e : (cs.map fun q => bestF (areaF q.2) ⟨per, pr, most⟩ l).getD j default = bestF (areaF (cs.getD j default).2) ⟨per, pr, most⟩ l := getD_map hj
                show leXL _ [vsI ((cs.map fun q => bestF (areaF q.2) ⟨per, pr, most⟩ l).getD j default)]
                rw [e]
                simp [addLo, viewN, viewL, view, vsI, enc1, leXL, leX, andT]
  · exact h.1.elim

theorem best_len {a : Iv} {w : Wsh} {l : List Plt} : (bestF a w l).length ≤ 2 := by
  by_cases h : bestF a w l = []
  · rw [h]; exact Nat.zero_le _
  · obtain ⟨v, hv, _⟩ := best_some h
    have := chc_len (x := bestF a w l) (by rw [hv])
    omega
theorem ch_of {c : List SV} (h : okSL shC c) : ∃ q : Chn, leXL c (encC q) := by
  obtain ⟨z, l, _, h2⟩ := c_of h
  exact ⟨(z, l), h2⟩
def PC2 : Env := { ct := fun n => match n with | 5 => some trueC | 16 => some samIC | 14 => some plnC | 15 => some plnC | _ => none, fn := fun _ => none, meth := fun _ _ => none }
theorem PC2_ct5 : PC2.ct 5 = some trueC := rfl
theorem PC2_ct16 : PC2.ct 16 = some samIC := rfl
theorem PC2_ct14 : PC2.ct 14 = some plnC := rfl
theorem PC2_ct15 : PC2.ct 15 = some plnC := rfl
theorem PC2_ok : EnvOk Tryz.prog PC2 := by
  refine ⟨fun f c h => ?_, fun f vf h => ?_, (fun _ _ _ h => by cases h), by kernel_rfl⟩
  · simp only [PC2] at h
    split at h
    · cases h; exact ⟨awake_ok, Tryz.f5, Tryz.func5, by kernel_rfl, by kernel_rfl⟩
    · cases h; exact ⟨samI_ok, Tryz.f16, Tryz.func16, by kernel_rfl, by kernel_rfl⟩
    · cases h; exact ⟨plan_ok, Tryz.f14, Tryz.func14, by kernel_rfl, by kernel_rfl⟩
    · cases h; exact ⟨rplan_ok, Tryz.f15, Tryz.func15, by kernel_rfl, by kernel_rfl⟩
    · cases h
  · cases h

def lawPl : List PSh := [⟨false, [.slice shC]⟩, ⟨false, [.slice shP]⟩, ⟨true, shW⟩]
theorem w3_of {c : List SV} (h : okSL shW c) : ∃ per pr most : Int, c = [.int .i64 per, .int .i64 pr, .int .i64 most] := by
  obtain ⟨_, _, rfl, ⟨n1, rfl, _⟩, e1⟩ := okSL_cons_inv h
  obtain ⟨_, _, rfl, ⟨n2, rfl, _⟩, e2⟩ := okSL_cons_inv e1
  obtain ⟨_, _, rfl, ⟨n3, rfl, _⟩, e3⟩ := okSL_cons_inv e2
  cases okSL_nil_inv e3
  exact ⟨n1, n2, n3, rfl⟩
theorem lawPlans : (lawC lawPl).ok Tryz.prog 4 := by
  refine contract Tryz.func4 v4_is PC2_ok 500 (lawC lawPl) fun args k h => ?_
  obtain ⟨ha, hk⟩ := h
  obtain ⟨v1, _, rfl, h1, e1⟩ := okPL_cons_inv ha
  obtain ⟨v2, _, rfl, h2, e2⟩ := okPL_cons_inv e1
  obtain ⟨_, _, rfl, h3, e3⟩ := okPL_cons_inv e2
  obtain ⟨ws, rfl, hws⟩ := okP_agg_inv h3
  cases okPL_nil_inv e3
  obtain ⟨z, cs, hcl, hce⟩ := slice_of (fun _ => ch_of) (okP_one_inv h1)
  obtain ⟨z', l, hll, hle⟩ := sls_of (fun _ => p_of) (okP_one_inv h2)
  obtain ⟨per, pr, most, rfl⟩ := w3_of hws
  rw [maxLen_eq] at hcl hll
  refine ⟨[.vs false z cs.length 1 (fun k => encC (cs.getD k default)), .vs false z' l.length 4 (fun k => encP (l.getD k default)), .agg [.int .i64 per, .int .i64 pr, .int .i64 most]], ⟨leX_le _ _ hce trivial, leX_le _ _ hle trivial, le_self (.agg [.int .i64 per, .int .i64 pr, .int .i64 most]) ⟨trivial, trivial, trivial, trivial⟩, trivial⟩, ?_⟩
  have hk' : k (.bool true) [] := hk
  dsimp only [v4, PC2_ct5, trueC, encC, enc2, encP, Int.toNat_natCast, go_sem, Option.bind, Option.map, List.append_nil, Nat.beq, List.cons_append, List.nil_append, List.append_eq, List.map_cons, List.map_nil, ite_self, reduceIte]
  simp only [true_and, and_true, imp_self, implies_true, decide_eq_true_eq, decide_eq_false_iff_not, Nat.reduceAdd, Nat.reduceLeDiff, Bool.not_not, reduceCtorEq, false_imp_iff, Bool.not_eq_true', Bool.not_eq_false', Bool.false_eq_true, and_self, forall_const, ne_eq, not_false_eq_true, Nat.reduceEqDiff]
  refine ⟨fun a b => by rw [a, decide_eq_true b]; rfl, fun _ => ans_bool hk', fun hf => ?_⟩
  rw [Bool.or_eq_false_iff, Bool.or_eq_false_iff, Bool.or_eq_false_iff, decide_eq_false_iff_not, decide_eq_false_iff_not] at hf
  have hcs : cs.length ≤ 70 := by omega
  have hl5 : l.length ≤ 50 := by omega
  refine Loop.keep [0, 0, 3] Nat (fun i => [(7, .int .i64 i)]) (fun _ => []) [] (fun i => i ≤ cs.length ∧ ∀ j, j < i → (cs.getD j default).2.length ≤ 30) (fun i => cs.length - i) ?_ ?_
  · refine ⟨0, ⟨Nat.zero_le _, fun j h => by omega⟩, ?_⟩
    dsimp only [go_sem, Option.bind, Option.map, List.append_nil, Nat.beq, List.cons_append, List.nil_append, List.append_eq, List.map_cons, List.map_nil, ite_self, reduceIte]
    simp only [leS_mk, leL_cons, leL_nil, le_junk, le_int, le_bool, le_nil, leLL_nil, leLL_cons, leH_cons, leH_nil, leH1_box, leH1_own, leH1_gone, le_vs, le_agg, le_tup, le_ptr, le_own, le_xp, le_fn, le_opt, le_val, le_elem, le_nil_own, le_nil_vs, leH_ghost, leL_chunk, leXL_id, bnd_int, bnd_bool, bnd_val, bnd_nil, bnd_junk, bnd_vs, bnd_xp, bnd_agg, bnd_tup, bnd_ptr, bnd_own, bnd_elem, bnd_fn, bnd_iface, bnd_opt, bndL_nil, bndL_cons, lenH_cons, lenH_nil, imp_self, implies_true, true_and, and_true] <;> simp
  · rintro i ⟨hi, ha⟩
    dsimp only [PC2_ct5, PC2_ct14, PC2_ct15, trueC, plnC, vsV, vsI, Int.toNat_natCast, go_sem, Option.bind, Option.map, List.append_nil, Nat.beq, List.cons_append, List.nil_append, List.append_eq, List.map_cons, List.map_nil, ite_self, reduceIte]
    simp only [true_and, and_true, imp_self, implies_true, decide_eq_true_eq, decide_eq_false_iff_not, Nat.reduceAdd, Nat.reduceLeDiff, Bool.not_not, reduceCtorEq, false_imp_iff, Bool.not_eq_true', Bool.not_eq_false', Bool.false_eq_true, and_self, forall_const, ne_eq, not_false_eq_true, Nat.reduceEqDiff]
    refine ⟨fun hlt => ⟨⟨by omega, hlt⟩, fun _ => ans_bool hk', fun hc => ⟨i + 1, ⟨by omega, fun j hj => ?_⟩, by omega, ?_⟩⟩, fun hge => ?_⟩
    · rcases Nat.lt_or_ge j i with h' | h'
      · exact ha j h'
      · obtain rfl : j = i := by omega
        omega
    · simp only [w_succ (i := i) (n := cs.length) (by omega) (by omega), leS_mk, leL_cons, leL_nil, le_junk, le_int, le_bool, le_nil, leLL_nil, leLL_cons, leH_cons, leH_nil, leH1_box, leH1_own, leH1_gone, le_vs, le_agg, le_tup, le_ptr, le_own, le_xp, le_fn, le_opt, le_val, le_elem, le_nil_own, le_nil_vs, leH_ghost, leL_chunk, leXL_id, bnd_int, bnd_bool, bnd_val, bnd_nil, bnd_junk, bnd_vs, bnd_xp, bnd_agg, bnd_tup, bnd_ptr, bnd_own, bnd_elem, bnd_fn, bnd_iface, bnd_opt, bndL_nil, bndL_cons, lenH_cons, lenH_nil, imp_self, implies_true, true_and, and_true] <;> simp
    · obtain rfl : i = cs.length := by omega
      have hin : ∀ q ∈ cs, q.2.length ≤ 1000000000000 := fun q hq => by
        obtain ⟨j, hj, rfl⟩ := mem_getD hq
        have := ha j hj
        omega
      refine ⟨cs, l, ⟨lsP_self, lsP_self, by omega, by omega, hin⟩, fun za => ⟨by decide, by decide, cs, l, ⟨lsP_self, lsP_self, by omega, by omega, hin⟩, fun zb => ⟨by decide, by decide, ?_⟩⟩⟩
      have hRl : (plnF cs l ⟨per, pr, most⟩).1.length ≤ 70 ∧ ∀ x ∈ (plnF cs l ⟨per, pr, most⟩).1, x.length ≤ 2 := by
        unfold plnF
        split
        · exact ⟨Nat.zero_le _, fun x hx => by cases hx⟩
        · split
          · exact ⟨Nat.zero_le _, fun x hx => by cases hx⟩
          · refine ⟨by simpa using hcs, fun x hx => ?_⟩
            obtain ⟨q, _, rfl⟩ := List.mem_map.1 hx
            exact best_len
      generalize (plnF cs l ⟨per, pr, most⟩).1 = R at *
      generalize (plnF cs l ⟨per, pr, most⟩).2 = e at *
      rw [decide_eq_true rfl, decide_eq_true rfl]
      refine ⟨(fun h => by cases h), fun _ => ?_⟩
      refine Loop.keep [8, 1] Nat (fun i => [(12, .int .i64 i)]) (fun _ => []) [] (fun i => i ≤ R.length) (fun i => R.length - i) ?_ ?_
      · refine ⟨0, Nat.zero_le _, ?_⟩
        dsimp only [go_sem, Option.bind, Option.map, List.append_nil, Nat.beq, List.cons_append, List.nil_append, List.append_eq, List.map_cons, List.map_nil, ite_self, reduceIte]
        simp only [leS_mk, leL_cons, leL_nil, le_junk, le_int, le_bool, le_nil, leLL_nil, leLL_cons, leH_cons, leH_nil, leH1_box, leH1_own, leH1_gone, le_vs, le_agg, le_tup, le_ptr, le_own, le_xp, le_fn, le_opt, le_val, le_elem, le_nil_own, le_nil_vs, leH_ghost, leL_chunk, leXL_id, bnd_int, bnd_bool, bnd_val, bnd_nil, bnd_junk, bnd_vs, bnd_xp, bnd_agg, bnd_tup, bnd_ptr, bnd_own, bnd_elem, bnd_fn, bnd_iface, bnd_opt, bndL_nil, bndL_cons, lenH_cons, lenH_nil, imp_self, implies_true, true_and, and_true] <;> simp
      · rintro i hi
        dsimp only [PC2_ct5, PC2_ct16, trueC, samIC, samC, vsI, enc1, Int.toNat_natCast, go_sem, Option.bind, Option.map, List.append_nil, Nat.beq, List.cons_append, List.nil_append, List.append_eq, List.map_cons, List.map_nil, ite_self, reduceIte]
        simp only [true_and, and_true, imp_self, implies_true, decide_eq_true_eq, decide_eq_false_iff_not, Nat.reduceAdd, Nat.reduceLeDiff, Bool.not_not, reduceCtorEq, false_imp_iff, Bool.not_eq_true', Bool.not_eq_false', Bool.false_eq_true, and_self, forall_const, ne_eq, not_false_eq_true, Nat.reduceEqDiff]
        refine ⟨fun hlt => ?_, fun hge => ans_bool hk'⟩
        have hi' : i < R.length := by omega
        have hx2 := hRl.2 _ (getD_mem hi')
        refine ⟨⟨by omega, hlt⟩, ⟨by omega, hlt⟩, R.getD i default, R.getD i default, ⟨lsP_self, lsP_self, by omega⟩, ?_⟩
        refine ⟨fun h => absurd rfl h, fun _ => ⟨i + 1, by omega, by omega, ?_⟩⟩
        simp only [w_succ (i := i) (n := R.length) (by omega) (by omega), leS_mk, leL_cons, leL_nil, le_junk, le_int, le_bool, le_nil, leLL_nil, leLL_cons, leH_cons, leH_nil, leH1_box, leH1_own, leH1_gone, le_vs, le_agg, le_tup, le_ptr, le_own, le_xp, le_fn, le_opt, le_val, le_elem, le_nil_own, le_nil_vs, leH_ghost, leL_chunk, leXL_id, bnd_int, bnd_bool, bnd_val, bnd_nil, bnd_junk, bnd_vs, bnd_xp, bnd_agg, bnd_tup, bnd_ptr, bnd_own, bnd_elem, bnd_fn, bnd_iface, bnd_opt, bndL_nil, bndL_cons, lenH_cons, lenH_nil, imp_self, implies_true, true_and, and_true] <;> simp
end Go.Proofs.YtngccjllkgpjmaaGreat

/- Laws, as they are given, without a condition. -/
/- Laws, as they are given, without a condition. -/
set_option linter.all false
namespace Go.Proofs.YtngccjllkgpjmaaGreat
open Go Go.Vx Go.RowKit
set_option maxRecDepth 100000

theorem ownX4 : ownKnob Tryz.prog.godebug = none := by kernel_rfl
theorem laidX4 : laidOutB Tryz.prog = true := by kernel_rfl

theorem chestsPlans_lifted (os : Os) (started : os.Started) (H : Type) (enc : TypeId × Value → H) :
    ReturnsInHanded {} Tryz.checked os 4 .any (Rows.chestsPlansSpec.pre6 enc Tryz.prog Tryz.f4 Rows.chestsPlansRow.domain false) (Rows.chestsPlansSpec.post enc Tryz.prog Tryz.f4 false true false false) :=
  law_lifted (C := Tryz.checked) (tb := 4) ownX4 started (by kernel_rfl) Tryz.func4 laidX4
    (ChangeSpec.witness6 (enc := enc) (C := Tryz.checked) false ⟨#[], #[.slice none 0 0, .slice none 0 0, .agg #[.int .i64 0, .int .i64 0, .int .i64 0]], []⟩ 8 (by kernel_rfl) (by kernel_rfl) (by kernel_rfl) (by kernel_rfl))
    (by kernel_rfl) (by kernel_rfl) (by kernel_rfl) (by kernel_rfl) rfl (fun ds h => match ds, h with | [_, _, _], _ => ⟨rfl, rfl, rfl⟩) lawPlans

theorem chestsPlans_holds : Rows.ChestsPlansSaid :=
  OpenClaim.holds_of_wide 4 Tryz.f4 rfl rfl rfl rfl rfl rfl rfl ⟨rfl, rfl, rfl, rfl, rfl⟩ rfl rfl rfl rfl rfl (by kernel_rfl) Tryz.func4 (by kernel_rfl)
    (of_decide_eq_true (by kernel_rfl)) (by unfold Func.isWrapper; first | (rw [if_pos (by decide +kernel)]; kernel_rfl) | (rw [if_neg (by decide +kernel)]; exact ⟨rfl, rfl⟩))
    (fun os started H enc _ => chestsPlans_lifted os started H enc)

end Go.Proofs.YtngccjllkgpjmaaGreat

