/- Numbers by limbs, walked: Minus, Times. -/
import Derived.Test.YtngccjllkgpjmaaGreatMgX4c
import Derived.Test.YtngccjllkgpjmaaGreatBL
/- Numbers by limbs, walked: Minus, Times. -/
set_option linter.all false
namespace Go.Proofs.YtngccjllkgpjmaaGreat
open Go Go.Vx
set_option maxRecDepth 100000
set_option maxHeartbeats 4000000

def v115 : VF := { ntmps := 36, res := [.tmp 4], body :=
 (.seq (.region [u1 4 .mov [.cn .nil]])
 (.seq (.region [u1 5 .mov [.cn .nil]])
 (.seq (.region [u1 6 .mov [.cn (.int .u64 0)]])
 (.seq (.seq (.region [u1 7 .mov [.cn (.int .i64 0)]])
 (.block 0 (.loop (.seq (.seq (.region [u1 9 .mov [.tm 7],
 u1 10 .mov [.tm 0],
 u1 11 .len [.tm 10],
 u1 12 (.cmp .lss) [.tm 9, .tm 11]])
 (.cond (.tm 12) .skip
  (.exit 0)))
 (.seq (.block 1 (.seq (.region [u1 15 .mov [.tm 0],
 u1 16 .mov [.tm 7],
 u1 17 (.call 100) [.tm 15, .tm 16],
 u1 18 (.ari .add) [.cn (.int .u64 4294967296), .tm 17],
 u1 19 .mov [.tm 1],
 u1 20 .mov [.tm 7],
 u1 21 (.call 100) [.tm 19, .tm 20],
 u1 22 (.ari .sub) [.tm 18, .tm 21],
 u1 23 .mov [.tm 6],
 u1 24 (.ari .sub) [.tm 22, .tm 23],
 u1 8 .mov [.tm 24]])
 (.seq (.region [u1 25 .mov [.tm 5],
 u1 26 .mov [.tm 8],
 u1 27 .rem [.tm 26, .cn (.int .u64 4294967296)],
 u1 28 (.conv .u32) [.tm 27],
 u1 29 (.buildSlice 1 1 [(.int .u32 0)] [(0, 1)]) [.tm 28],
 u1 30 (.append 1 4 [(.int .u32 0)]) [.tm 25, .tm 29],
 u1 5 .mov [.tm 30]])
 (.region [u1 31 .mov [.tm 8],
 u1 32 .quo [.tm 31, .cn (.int .u64 4294967296)],
 u1 33 (.ari .sub) [.cn (.int .u64 1), .tm 32],
 u1 6 .mov [.tm 33]]))))
 (.region [u1 13 .mov [.tm 7],
 u1 14 (.ari .add) [.tm 13, .cn (.int .i64 1)],
 u1 7 .mov [.tm 14]]))))))
 (.seq (.region [u1 34 .mov [.tm 5],
 u1 35 (.call 99) [.tm 34],
 u1 4 .mov [.tm 35]])
 .ret))))) }
theorem v115_is : vfunc Tryz.prog Tryz.f115 = some v115 := by kernel_rfl
def v90 : VF := { ntmps := 59, res := [.tmp 4], body :=
 (.seq (.region [u1 4 .mov [.cn .nil]])
 (.seq (.region [u1 10 .mov [.tm 0],
 u1 11 .len [.tm 10],
 u1 12 .mov [.tm 1],
 u1 13 .len [.tm 12],
 u1 14 (.ari .add) [.tm 11, .tm 13],
 u1 15 (.ari .add) [.tm 14, .cn (.int .i64 1)],
 u1 16 (.make 1 4 [(.int .u32 0)]) [.tm 15, .tm 15],
 u1 5 .mov [.tm 16]])
 (.seq (.seq (.region [u1 6 .mov [.cn (.int .i64 0)]])
 (.block 0 (.loop (.seq (.seq (.region [u1 17 .mov [.tm 6],
 u1 18 .mov [.tm 0],
 u1 19 .len [.tm 18],
 u1 20 (.cmp .lss) [.tm 17, .tm 19]])
 (.cond (.tm 20) .skip
  (.exit 0)))
 (.seq (.block 1 (.seq (.region [u1 7 .mov [.cn (.int .u64 0)]])
 (.seq (.region [u1 8 .mov [.cn (.int .i64 0)]])
 (.block 2 (.loop (.seq (.seq (.region [u1 23 .mov [.tm 8],
 u1 24 .mov [.tm 1],
 u1 25 .len [.tm 24],
 u1 26 (.ari .add) [.tm 25, .cn (.int .i64 1)],
 u1 27 (.cmp .lss) [.tm 23, .tm 26]])
 (.cond (.tm 27) .skip
  (.exit 2)))
 (.seq (.block 3 (.seq (.draw [] [w1 30 .mov [.tm 5],
 w1 31 .mov [.tm 6],
 w1 32 .mov [.tm 8],
 w1 33 (.ari .add) [.tm 31, .tm 32],
 w1 34 (.idxAddr 1) [.tm 30, .tm 33],
 w1 35 (.load false 1) [.tm 34],
 w1 36 (.conv .u64) [.tm 35],
 w1 37 .mov [.tm 0],
 w1 38 .mov [.tm 6],
 w1 40 .mov [.tm 1],
 w1 41 .mov [.tm 8],
 w1 45 .mov [.tm 7],
 w1 39 (.call 100) [.tm 37, .tm 38],
 w1 42 (.call 100) [.tm 40, .tm 41],
 w1 43 (.ari .mul) [.tm 39, .tm 42],
 w1 44 (.ari .add) [.tm 36, .tm 43],
 w1 46 (.ari .add) [.tm 44, .tm 45],
 w1 9 .mov [.tm 46]])
 (.seq (.region [u1 47 .mov [.tm 5],
 u1 48 .mov [.tm 6],
 u1 49 .mov [.tm 8],
 u1 50 (.ari .add) [.tm 48, .tm 49],
 u1 51 .mov [.tm 9],
 u1 52 .rem [.tm 51, .cn (.int .u64 4294967296)],
 u1 53 (.conv .u32) [.tm 52],
 u1 54 (.idxAddr 1) [.tm 47, .tm 50],
 u0 (.store 1) [.tm 54, .tm 53]])
 (.region [u1 55 .mov [.tm 9],
 u1 56 .quo [.tm 55, .cn (.int .u64 4294967296)],
 u1 7 .mov [.tm 56]]))))
 (.region [u1 28 .mov [.tm 8],
 u1 29 (.ari .add) [.tm 28, .cn (.int .i64 1)],
 u1 8 .mov [.tm 29]]))))))))
 (.region [u1 21 .mov [.tm 6],
 u1 22 (.ari .add) [.tm 21, .cn (.int .i64 1)],
 u1 6 .mov [.tm 22]]))))))
 (.seq (.region [u1 57 .mov [.tm 5],
 u1 58 (.call 99) [.tm 57],
 u1 4 .mov [.tm 58]])
 .ret)))) }
theorem v90_is : vfunc Tryz.prog Tryz.f90 = some v90 := by kernel_rfl


def minusC : Ctr := { alias := false, of := fun l => match l with
  | [.vs _ _ n sz get, .vs _ _ m sz' get'] => .ex Nat fun a => .ex Nat fun b => .pre (padP a n sz get ∧ padP b m sz' get' ∧ b ≤ a) (.fin (natS false (a - b)) [])
  | _ => noC }
def timesC : Ctr := { alias := false, of := fun l => match l with
  | [.vs _ _ n sz get, .vs _ _ m sz' get'] => .ex Nat fun a => .ex Nat fun b => .pre (padP a n sz get ∧ padP b m sz' get' ∧ n + m ≤ 99999) (.fin (natS false (a * b)) [])
  | _ => noC }

theorem minus_ok : minusC.ok Tryz.prog 115 := by
  refine contract Tryz.func115 v115_is R1_ok 200 minusC fun args k h => ?_
  simp only [minusC] at h
  split at h
  · rename_i t1 z1 n sz get t2 z2 m sz' get'
    obtain ⟨a, b, ⟨⟨rfl, hn, ha, hg⟩, ⟨rfl, hm, hb, hg'⟩, hba⟩, h⟩ := h
    refine ⟨[.vs t1 z1 n 1 (fun k => [.int .u32 (dig a k)]), .vs t2 z2 m 1 (fun k => [.int .u32 (dig b k)])], ⟨by simpa [le] using hg, by simpa [le] using hg', trivial⟩, ?_⟩
    (try dsimp only [v115, go_sem, Option.bind, Option.map, List.append_nil, Nat.beq, List.cons_append, List.nil_append, List.append_eq, List.map_cons, List.map_nil, ite_self, reduceIte])
    (try simp only [true_and, and_true, imp_self, implies_true, decide_eq_true_eq, decide_eq_false_iff_not, Nat.reduceAdd, Nat.reduceLeDiff, Bool.not_not, reduceCtorEq, false_imp_iff, Bool.not_eq_true', Bool.not_eq_false', Bool.false_eq_true, and_self, forall_const, ne_eq, not_false_eq_true, Nat.reduceEqDiff])
    refine Loop.keep [0, 0, 3, 0, 0] Nat (fun i => [(5, .own 0 0 i 1), (6, .int .u64 (cy b (a - b) i)), (7, .int .i64 i)]) (fun i => [(0, .own (decide (i = 0)) 1 i (fun k => [.int .u32 (dig (a - b) k)]))]) [.gone] (fun i => i ≤ n) (fun i => n - i) ?_ ?_
    · refine ⟨0, by omega, ?_⟩
      (try dsimp only [go_sem, Option.bind, Option.map, List.append_nil, Nat.beq, List.cons_append, List.nil_append, List.append_eq, List.map_cons, List.map_nil, ite_self, reduceIte])
      simp only [leS_mk, leL_cons, leL_nil, le_junk, le_int, le_bool, le_nil, leLL_nil, leLL_cons, leH_cons, leH_nil, leH1_box, leH1_own, leH1_gone, le_vs, le_agg, le_tup, le_ptr, le_own, le_xp, le_fn, le_opt, le_val, le_elem, le_nil_own, le_nil_vs, leH_ghost, leL_chunk, leXL_id, bnd_int, bnd_bool, bnd_val, bnd_nil, bnd_junk, bnd_vs, bnd_xp, bnd_agg, bnd_tup, bnd_ptr, bnd_own, bnd_elem, bnd_fn, bnd_iface, bnd_opt, bndL_nil, bndL_cons, lenH_cons, lenH_nil, imp_self, implies_true, true_and, and_true]
      simp [cy_0]
    · rintro i hi
      (try dsimp only [R1_ct100, R1_ct99, limbC, trimC, natS, Int.toNat_natCast, go_sem, Option.bind, Option.map, List.append_nil, Nat.beq, List.cons_append, List.nil_append, List.append_eq, List.map_cons, List.map_nil, ite_self, reduceIte])
      (try simp only [true_and, and_true, imp_self, implies_true, decide_eq_true_eq, decide_eq_false_iff_not, Nat.reduceAdd, Nat.reduceLeDiff, Bool.not_not, reduceCtorEq, false_imp_iff, Bool.not_eq_true', Bool.not_eq_false', Bool.false_eq_true, and_self, forall_const, ne_eq, not_false_eq_true, Nat.reduceEqDiff])
      refine ⟨fun hlt => ⟨a, ⟨padP_self hn ha, by omega⟩, b, ⟨padP_self hm hb, by omega⟩, by decide, by decide, ?_⟩, fun hge => ⟨a - b, ?_, ?_⟩⟩
      · have hd1 := dig_lt a i
        have hd2 := dig_lt b i
        have hd3 := dig_lt (a - b) i
        have hc := cy_le b (a - b) i
        have hc2 := cy_le b (a - b) (i + 1)
        obtain ⟨e1, e2, e3, e4⟩ := sub_dig hba i
        have f1 : IntKind.u64.wrap (4294967296 + (dig a i : Int)) = ((4294967296 + dig a i : Nat) : Int) := by rw [IntWalk.u64_in _ (by omega)]; simp
        rw [f1, u_sub (by omega) (by omega), u_sub (by omega) (by omega)]
        (try dsimp only [go_sem, Option.bind, Option.map, List.append_nil, Nat.beq, List.cons_append, List.nil_append, List.append_eq, List.map_cons, List.map_nil, ite_self, reduceIte])
        (try simp only [true_and, and_true, imp_self, implies_true, decide_eq_true_eq, decide_eq_false_iff_not, Nat.reduceAdd, Nat.reduceLeDiff, Bool.not_not, reduceCtorEq, false_imp_iff, Bool.not_eq_true', Bool.not_eq_false', Bool.false_eq_true, and_self, forall_const, ne_eq, not_false_eq_true, Nat.reduceEqDiff])
        refine ⟨⟨by unfold capOk; omega, fun j hj => ?_⟩, by decide, i + 1, by omega, by omega, ?_⟩
        · match j, hj with
          | 0, _ => exact ⟨rfl, trivial, trivial⟩
        · have f2 : ∀ q : Nat, q ≤ 1 → IntKind.u64.wrap (1 - (q : Int)) = ((1 - q : Nat) : Int) := fun q hq => by rw [IntWalk.u64_in _ (by omega)]; omega
          rw [u3_rem, u_quo (by omega), f2 _ (by omega), e1, e2, IntWalk.i64_in ((i : Int) + 1) (by omega)]
          simp only [leS_mk, leL_cons, leL_nil, le_junk, le_int, le_bool, le_nil, leLL_nil, leLL_cons, leH_cons, leH_nil, leH1_box, leH1_own, leH1_gone, le_vs, le_agg, le_tup, le_ptr, le_own, le_xp, le_fn, le_opt, le_val, le_elem, le_nil_own, le_nil_vs, leH_ghost, leL_chunk, leXL_id, bnd_int, bnd_bool, bnd_val, bnd_nil, bnd_junk, bnd_vs, bnd_xp, bnd_agg, bnd_tup, bnd_ptr, bnd_own, bnd_elem, bnd_fn, bnd_iface, bnd_opt, bndL_nil, bndL_cons, lenH_cons, lenH_nil, imp_self, implies_true, true_and, and_true]
          refine ⟨by simp, by simp, fun j hj => ?_⟩
          rcases Nat.lt_or_ge j i with h' | h'
          · rw [if_pos h']; simp only [leL, le, and_self]
          · obtain rfl : j = i := by omega
            rw [if_neg (Nat.lt_irrefl _), Nat.sub_self]
            simp only [purgeL, takeL, dropL, leL, Nat.zero_mul, purge, refs, cond, le, and_self]
      · obtain rfl : i = n := by omega
        exact padP_self hn (Nat.lt_of_le_of_lt (Nat.sub_le _ _) ha)
      · exact ans_natS (t := true) h
  · exact h.1.elim

theorem times_ok : timesC.ok Tryz.prog 90 := by
  refine contract Tryz.func90 v90_is R1_ok 300 timesC fun args k h => ?_
  simp only [timesC] at h
  split at h
  · rename_i t1 z1 n sz get t2 z2 m sz' get'
    obtain ⟨a, b, ⟨⟨rfl, hn, ha, hg⟩, ⟨rfl, hm, hb, hg'⟩, hnm⟩, h⟩ := h
    refine ⟨[.vs t1 z1 n 1 (fun k => [.int .u32 (dig a k)]), .vs t2 z2 m 1 (fun k => [.int .u32 (dig b k)])], ⟨by simpa [le] using hg, by simpa [le] using hg', trivial⟩, ?_⟩
    (try dsimp only [v90, go_sem, Option.bind, Option.map, List.append_nil, Nat.beq, List.cons_append, List.nil_append, List.append_eq, List.map_cons, List.map_nil, ite_self, reduceIte])
    (try simp only [true_and, and_true, imp_self, implies_true, decide_eq_true_eq, decide_eq_false_iff_not, Nat.reduceAdd, Nat.reduceLeDiff, Bool.not_not, reduceCtorEq, false_imp_iff, Bool.not_eq_true', Bool.not_eq_false', Bool.false_eq_true, and_self, forall_const, ne_eq, not_false_eq_true, Nat.reduceEqDiff])
    have en : IntKind.i64.wrap (IntKind.i64.wrap ((n : Int) + (m : Int)) + 1) = ((n + m + 1 : Nat) : Int) := by
      rw [IntWalk.i64_in ((n : Int) + m) (by omega), IntWalk.i64_in _ (by omega)]; omega
    rw [en]
    simp only [Int.toNat_natCast]
    refine ⟨⟨by decide, by omega, by unfold capOk; omega⟩, ?_⟩
    refine Loop.keep [0, 0, 3, 0] Nat (fun i => [(6, .int .i64 i)]) (fun i => [(0, .own false 1 (n + m + 1) (fun k => [.int .u32 (dig ((a % 4294967296 ^ i) * b) k)]))]) [] (fun i => i ≤ n) (fun i => n - i) ?_ ?_
    · refine ⟨0, by omega, ?_⟩
      (try dsimp only [go_sem, Option.bind, Option.map, List.append_nil, Nat.beq, List.cons_append, List.nil_append, List.append_eq, List.map_cons, List.map_nil, ite_self, reduceIte])
      simp only [leS_mk, leL_cons, leL_nil, le_junk, le_int, le_bool, le_nil, leLL_nil, leLL_cons, leH_cons, leH_nil, leH1_box, leH1_own, leH1_gone, le_vs, le_agg, le_tup, le_ptr, le_own, le_xp, le_fn, le_opt, le_val, le_elem, le_nil_own, le_nil_vs, leH_ghost, leL_chunk, leXL_id, bnd_int, bnd_bool, bnd_val, bnd_nil, bnd_junk, bnd_vs, bnd_xp, bnd_agg, bnd_tup, bnd_ptr, bnd_own, bnd_elem, bnd_fn, bnd_iface, bnd_opt, bndL_nil, bndL_cons, lenH_cons, lenH_nil, imp_self, implies_true, true_and, and_true]
      simp [Nat.mod_one, dig_zero, leL, le]
    · rintro i hi
      (try dsimp only [R1_ct100, R1_ct99, limbC, trimC, natS, Int.toNat_natCast, go_sem, Option.bind, Option.map, List.append_nil, Nat.beq, List.cons_append, List.nil_append, List.append_eq, List.map_cons, List.map_nil, ite_self, reduceIte])
      (try simp only [true_and, and_true, imp_self, implies_true, decide_eq_true_eq, decide_eq_false_iff_not, Nat.reduceAdd, Nat.reduceLeDiff, Bool.not_not, reduceCtorEq, false_imp_iff, Bool.not_eq_true', Bool.not_eq_false', Bool.false_eq_true, and_self, forall_const, ne_eq, not_false_eq_true, Nat.reduceEqDiff])
      refine ⟨fun hlt => ?_, fun hge => ?_⟩
      · refine Loop.keep [0, 0, 3, 0, 0, 0] (Nat × Nat × Nat) (fun x => [(7, .int .u64 x.2.2), (8, .int .i64 x.1)]) (fun x => [(0, .own false 1 (n + m + 1) (fun k => [.int .u32 (dig x.2.1 k)]))]) [] (fun x => x.1 ≤ m + 1 ∧ x.2.2 < 4294967296 ∧ x.2.1 < 4294967296 ^ (n + m + 1) ∧ x.2.1 + x.2.2 * 4294967296 ^ (i + x.1) = (a % 4294967296 ^ i) * b + dig a i * (b % 4294967296 ^ x.1) * 4294967296 ^ i) (fun x => m + 1 - x.1) ?_ ?_
        · refine ⟨(0, (a % 4294967296 ^ i) * b, 0), ⟨by simp only; omega, by simp only; omega, ?_, by simp [Nat.mod_one]⟩, ?_⟩
          · exact mul_lt hi ha hb
          · (try dsimp only [go_sem, Option.bind, Option.map, List.append_nil, Nat.beq, List.cons_append, List.nil_append, List.append_eq, List.map_cons, List.map_nil, ite_self, reduceIte])
            simp only [leS_mk, leL_cons, leL_nil, le_junk, le_int, le_bool, le_nil, leLL_nil, leLL_cons, leH_cons, leH_nil, leH1_box, leH1_own, leH1_gone, le_vs, le_agg, le_tup, le_ptr, le_own, le_xp, le_fn, le_opt, le_val, le_elem, le_nil_own, le_nil_vs, leH_ghost, leL_chunk, leXL_id, bnd_int, bnd_bool, bnd_val, bnd_nil, bnd_junk, bnd_vs, bnd_xp, bnd_agg, bnd_tup, bnd_ptr, bnd_own, bnd_elem, bnd_fn, bnd_iface, bnd_opt, bndL_nil, bndL_cons, lenH_cons, lenH_nil, imp_self, implies_true, true_and, and_true]
            simp [leL, le]
        · rintro ⟨t, V, c⟩ ⟨ht, hc, hV, he⟩
          dsimp only at ht hc hV he
          (try dsimp only [R1_ct100, R1_ct99, limbC, trimC, natS, Int.toNat_natCast, go_sem, Option.bind, Option.map, List.append_nil, Nat.beq, List.cons_append, List.nil_append, List.append_eq, List.map_cons, List.map_nil, ite_self, reduceIte])
          (try simp only [true_and, and_true, imp_self, implies_true, decide_eq_true_eq, decide_eq_false_iff_not, Nat.reduceAdd, Nat.reduceLeDiff, Bool.not_not, reduceCtorEq, false_imp_iff, Bool.not_eq_true', Bool.not_eq_false', Bool.false_eq_true, and_self, forall_const, ne_eq, not_false_eq_true, Nat.reduceEqDiff])
          rw [IntWalk.i64_in ((m : Int) + 1) (by omega)]
          refine ⟨fun hlt2 => ?_, fun hge2 => ?_⟩
          · have w1 : IntKind.i64.wrap ((i : Int) + (t : Int)) = ((i + t : Nat) : Int) := by rw [IntWalk.i64_in _ (by omega)]; simp
            rw [w1]
            simp only [Int.toNat_natCast]
            have hd0 := dig_lt V (i + t)
            obtain ⟨hb1, hb2⟩ := mul_bound hd0 (dig_lt a i) (dig_lt b t) hc
            have hs := mul_step he
            refine ⟨⟨by omega, by omega⟩, by omega, a, ⟨padP_self hn ha, by omega⟩, b, ⟨padP_self hm hb, by omega⟩, by decide, ⟨by omega, by omega⟩, by omega, by decide,
              (t + 1, setD V (i + t) ((dig V (i + t) + dig a i * dig b t + c) % 4294967296), (dig V (i + t) + dig a i * dig b t + c) / 4294967296), ⟨by simp only; omega, hb2, setD_lt hV (Nat.mod_lt _ (by decide)) (by omega), hs⟩, by simp only; omega, ?_⟩
            rw [u_nat (by omega : dig V (i + t) < 18446744073709551616), u_mul (by omega), u_add (by omega), u_add (by omega), u3_rem, u_quo (by omega), IntWalk.i64_in ((t : Int) + 1) (by omega)]
            simp only [leS_mk, leL_cons, leL_nil, le_junk, le_int, le_bool, le_nil, leLL_nil, leLL_cons, leH_cons, leH_nil, leH1_box, leH1_own, leH1_gone, le_vs, le_agg, le_tup, le_ptr, le_own, le_xp, le_fn, le_opt, le_val, le_elem, le_nil_own, le_nil_vs, leH_ghost, leL_chunk, leXL_id, bnd_int, bnd_bool, bnd_val, bnd_nil, bnd_junk, bnd_vs, bnd_xp, bnd_agg, bnd_tup, bnd_ptr, bnd_own, bnd_elem, bnd_fn, bnd_iface, bnd_opt, bndL_nil, bndL_cons, lenH_cons, lenH_nil, imp_self, implies_true, true_and, and_true]
            refine ⟨by simp, fun j hj => ?_⟩
            rw [dig_setD (Nat.mod_lt _ (by decide))]
            split <;> simp only [leL, le, and_self]
          · obtain rfl : t = m + 1 := by omega
            have hbm : b % 4294967296 ^ (m + 1) = b := Nat.mod_eq_of_lt (Nat.lt_of_lt_of_le hb (Nat.pow_le_pow_right (by decide) (by omega)))
            rw [hbm] at he
            have hrow : (a % 4294967296 ^ (i + 1)) * b = (a % 4294967296 ^ i) * b + dig a i * b * 4294967296 ^ i := by
              rw [mod_pw, Nat.add_mul, Nat.mul_assoc, Nat.mul_comm (4294967296 ^ i)]
            rw [← hrow] at he
            have hlt3 : (a % 4294967296 ^ (i + 1)) * b < 4294967296 ^ (i + (m + 1)) := by
              have h1 := Nat.mod_lt a (pw_pos (i + 1))
              have h2 : (a % 4294967296 ^ (i + 1)) * b ≤ (a % 4294967296 ^ (i + 1)) * 4294967296 ^ m := Nat.mul_le_mul_left _ (Nat.le_of_lt hb)
              have h3 : (a % 4294967296 ^ (i + 1)) * 4294967296 ^ m < 4294967296 ^ (i + 1) * 4294967296 ^ m := Nat.mul_lt_mul_of_pos_right h1 (pw_pos m)
              rw [← Nat.pow_add, show i + 1 + m = i + (m + 1) by omega] at h3
              omega
            obtain rfl : c = 0 := by
              rcases Nat.eq_zero_or_pos c with h0 | h0
              · exact h0
              · have : 1 * 4294967296 ^ (i + (m + 1)) ≤ c * 4294967296 ^ (i + (m + 1)) := Nat.mul_le_mul_right _ h0
                omega
            rw [Nat.zero_mul, Nat.add_zero] at he
            refine ⟨i + 1, by omega, by omega, ?_⟩
            rw [he, IntWalk.i64_in ((i : Int) + 1) (by omega)]
            simp only [leS_mk, leL_cons, leL_nil, le_junk, le_int, le_bool, le_nil, leLL_nil, leLL_cons, leH_cons, leH_nil, leH1_box, leH1_own, leH1_gone, le_vs, le_agg, le_tup, le_ptr, le_own, le_xp, le_fn, le_opt, le_val, le_elem, le_nil_own, le_nil_vs, leH_ghost, leL_chunk, leXL_id, bnd_int, bnd_bool, bnd_val, bnd_nil, bnd_junk, bnd_vs, bnd_xp, bnd_agg, bnd_tup, bnd_ptr, bnd_own, bnd_elem, bnd_fn, bnd_iface, bnd_opt, bndL_nil, bndL_cons, lenH_cons, lenH_nil, imp_self, implies_true, true_and, and_true]
            simp [leL, le]
      · obtain rfl : i = n := by omega
        refine ⟨a * b, ?_, ans_natS (t := true) h⟩
        rw [Nat.mod_eq_of_lt ha]
        exact padP_self (by omega) (by have := mul_lt (Nat.le_refl i) ha hb; rwa [Nat.mod_eq_of_lt ha] at this)
  · exact h.1.elim
end Go.Proofs.YtngccjllkgpjmaaGreat

/- Numbers by limbs, walked: Size, bit, double, Divide. -/
/- Numbers by limbs, walked: Size, bit, double, Divide. -/
set_option linter.all false
namespace Go.Proofs.YtngccjllkgpjmaaGreat
open Go Go.Vx
set_option maxRecDepth 100000
set_option maxHeartbeats 4000000

def v95 : VF := { ntmps := 25, res := [.tmp 2], body :=
 (.seq (.region [u1 2 .mov [.cn (.int .i64 0)]])
 (.seq (.seq (.region [u1 5 .mov [.tm 0],
 u1 6 .len [.tm 5],
 u1 7 (.cmp .eql) [.tm 6, .cn (.int .i64 0)]])
 (.cond (.tm 7) (.seq (.region [u1 2 .mov [.cn (.int .i64 0)]])
 .ret)
  .skip))
 (.seq (.draw [] [w1 8 .mov [.tm 0],
 w1 9 .len [.tm 8],
 w1 10 (.ari .sub) [.tm 9, .cn (.int .i64 1)],
 w1 11 (.ari .mul) [.cn (.int .i64 32), .tm 10],
 w1 12 .mov [.tm 0],
 w1 13 .mov [.tm 0],
 w1 14 .len [.tm 13],
 w1 15 (.ari .sub) [.tm 14, .cn (.int .i64 1)],
 w1 16 (.idxAddr 1) [.tm 12, .tm 15],
 w1 17 (.load false 1) [.tm 16],
 w1 3 .mov [.tm 11],
 w1 4 .mov [.tm 17]])
 (.seq (.block 0 (.loop (.seq (.seq (.region [u1 18 .mov [.tm 4],
 u1 19 (.cmp .gtr) [.tm 18, .cn (.int .u32 0)]])
 (.cond (.tm 19) .skip
  (.exit 0)))
 (.block 1 (.seq (.region [u1 20 .mov [.tm 3],
 u1 21 (.ari .add) [.tm 20, .cn (.int .i64 1)],
 u1 3 .mov [.tm 21]])
 (.region [u1 22 .mov [.tm 4],
 u1 23 .quo [.tm 22, .cn (.int .u32 2)],
 u1 4 .mov [.tm 23]]))))))
 (.seq (.region [u1 24 .mov [.tm 3],
 u1 2 .mov [.tm 24]])
 .ret))))) }
theorem v95_is : vfunc Tryz.prog Tryz.f95 = some v95 := by kernel_rfl
def v110 : VF := { ntmps := 14, res := [.tmp 4], body :=
 (.seq (.region [u1 4 .mov [.cn (.int .u32 0)]])
 (.seq (.region [u1 5 .mov [.tm 0],
 u1 6 .mov [.tm 1],
 u1 7 .quo [.tm 6, .cn (.int .i64 32)],
 u1 8 (.idxAddr 1) [.tm 5, .tm 7],
 u1 9 (.load false 1) [.tm 8],
 u1 10 .mov [.tm 1],
 u1 11 .rem [.tm 10, .cn (.int .i64 32)],
 u1 12 .shr [.tm 9, .tm 11],
 u1 13 (.bit .and) [.tm 12, .cn (.int .u32 1)],
 u1 4 .mov [.tm 13]])
 .ret)) }
theorem v110_is : vfunc Tryz.prog Tryz.f110 = some v110 := by kernel_rfl
def v114 : VF := { ntmps := 39, res := [.tmp 4], body :=
 (.seq (.region [u1 4 .mov [.cn .nil]])
 (.seq (.region [u1 7 .mov [.tm 0],
 u1 8 .len [.tm 7],
 u1 9 (.ari .add) [.tm 8, .cn (.int .i64 1)],
 u1 10 (.make 1 4 [(.int .u32 0)]) [.tm 9, .tm 9],
 u1 5 .mov [.tm 10]])
 (.seq (.seq (.region [u1 6 .mov [.cn (.int .i64 0)]])
 (.block 0 (.loop (.seq (.seq (.region [u1 11 .mov [.tm 6],
 u1 12 .mov [.tm 0],
 u1 13 .len [.tm 12],
 u1 14 (.cmp .lss) [.tm 11, .tm 13]])
 (.cond (.tm 14) .skip
  (.exit 0)))
 (.seq (.block 1 (.seq (.region [u1 17 .mov [.tm 5],
 u1 18 .mov [.tm 6],
 u1 19 .mov [.tm 0],
 u1 20 .mov [.tm 6],
 u1 21 (.idxAddr 1) [.tm 19, .tm 20],
 u1 22 (.load false 1) [.tm 21],
 u1 23 .shl [.tm 22, .cn (.int .u64 1)],
 u1 24 .mov [.tm 1],
 u1 25 (.bit .or) [.tm 23, .tm 24],
 u1 26 (.idxAddr 1) [.tm 17, .tm 18],
 u0 (.store 1) [.tm 26, .tm 25]])
 (.region [u1 27 .mov [.tm 0],
 u1 28 .mov [.tm 6],
 u1 29 (.idxAddr 1) [.tm 27, .tm 28],
 u1 30 (.load false 1) [.tm 29],
 u1 31 .shr [.tm 30, .cn (.int .u64 31)],
 u1 1 .mov [.tm 31]])))
 (.region [u1 15 .mov [.tm 6],
 u1 16 (.ari .add) [.tm 15, .cn (.int .i64 1)],
 u1 6 .mov [.tm 16]]))))))
 (.seq (.region [u1 32 .mov [.tm 5],
 u1 33 .mov [.tm 0],
 u1 34 .len [.tm 33],
 u1 35 .mov [.tm 1],
 u1 36 (.idxAddr 1) [.tm 32, .tm 34],
 u0 (.store 1) [.tm 36, .tm 35]])
 (.seq (.region [u1 37 .mov [.tm 5],
 u1 38 (.call 99) [.tm 37],
 u1 4 .mov [.tm 38]])
 .ret))))) }
theorem v114_is : vfunc Tryz.prog Tryz.f114 = some v114 := by kernel_rfl
def v107 : VF := { ntmps := 47, res := [.tmp 4, .tmp 5], body :=
 (.seq (.region [u1 4 .mov [.cn .nil],
 u1 5 .mov [.cn .nil]])
 (.seq (.region [u1 9 .mov [.tm 0],
 u1 10 .len [.tm 9],
 u1 11 (.make 1 4 [(.int .u32 0)]) [.tm 10, .tm 10],
 u1 6 .mov [.tm 11]])
 (.seq (.region [u1 7 .mov [.cn .nil]])
 (.seq (.seq (.region [u1 12 .mov [.tm 0],
 u1 13 (.call 95) [.tm 12],
 u1 14 (.ari .sub) [.tm 13, .cn (.int .i64 1)],
 u1 8 .mov [.tm 14]])
 (.block 0 (.loop (.seq (.seq (.region [u1 15 .mov [.tm 8],
 u1 16 (.cmp .geq) [.tm 15, .cn (.int .i64 0)]])
 (.cond (.tm 16) .skip
  (.exit 0)))
 (.seq (.block 1 (.seq (.region [u1 19 .mov [.tm 7],
 u1 20 .mov [.tm 0],
 u1 21 .mov [.tm 8],
 u1 22 (.call 110) [.tm 20, .tm 21],
 u1 23 (.call 114) [.tm 19, .tm 22],
 u1 7 .mov [.tm 23]])
 (.seq (.region [u1 24 .mov [.tm 7],
 u1 25 .mov [.tm 1],
 u1 26 (.call 71) [.tm 24, .tm 25],
 u1 27 (.cmp .geq) [.tm 26, .cn (.int .i64 0)]])
 (.cond (.tm 27) (.seq (.region [u1 28 .mov [.tm 7],
 u1 29 .mov [.tm 1],
 u1 30 (.call 115) [.tm 28, .tm 29],
 u1 7 .mov [.tm 30]])
 (.draw [] [w1 31 .mov [.tm 6],
 w1 32 .mov [.tm 8],
 w1 33 .quo [.tm 32, .cn (.int .i64 32)],
 w1 34 .mov [.tm 6],
 w1 35 .mov [.tm 8],
 w1 36 .quo [.tm 35, .cn (.int .i64 32)],
 w1 37 (.idxAddr 1) [.tm 34, .tm 36],
 w1 38 (.load false 1) [.tm 37],
 w1 39 .mov [.tm 8],
 w1 40 .rem [.tm 39, .cn (.int .i64 32)],
 w1 41 .shl [.cn (.int .u32 1), .tm 40],
 w1 42 (.bit .or) [.tm 38, .tm 41],
 w1 43 (.idxAddr 1) [.tm 31, .tm 33],
 w0 (.store 1) [.tm 43, .tm 42]]))
  .skip))))
 (.region [u1 17 .mov [.tm 8],
 u1 18 (.ari .sub) [.tm 17, .cn (.int .i64 1)],
 u1 8 .mov [.tm 18]]))))))
 (.seq (.region [u1 44 .mov [.tm 6],
 u1 45 (.call 99) [.tm 44],
 u1 46 .mov [.tm 7],
 u1 4 .mov [.tm 45],
 u1 5 .mov [.tm 46]])
 .ret))))) }
theorem v107_is : vfunc Tryz.prog Tryz.f107 = some v107 := by kernel_rfl


def sizeC : Ctr := { alias := false, of := fun l => match l with
  | [.vs _ _ n sz get] => .ex Nat fun a => .pre (padP a n sz get ∧ n = nl a) (.fin (.int .i64 (bitsN a)) [])
  | _ => noC }
def bitC : Ctr := { alias := false, of := fun l => match l with
  | [.vs _ _ n sz get, .int .i64 i] => .ex Nat fun a => .pre (padP a n sz get ∧ 0 ≤ i ∧ i < 32 * n) (.fin (.int .u32 (bitN a i.toNat)) [])
  | _ => noC }
def doubleC : Ctr := { alias := false, of := fun l => match l with
  | [.vs _ _ n sz get, .int .u32 x] => .ex Nat fun a => .pre (padP a n sz get ∧ 0 ≤ x ∧ x ≤ 1 ∧ n ≤ 99999) (.fin (natS false (2 * a + x.toNat)) [])
  | _ => noC }
def divideC : Ctr := { alias := false, of := fun l => match l with
  | [.vs _ _ n sz get, .vs _ _ m sz' get'] => .ex Nat fun a => .ex Nat fun b => .pre (padP a n sz get ∧ n = nl a ∧ padP b m sz' get' ∧ 0 < b ∧ m ≤ 9999 ∧ n ≤ 9999) (.all Bool fun z => .fin (.tup [natS false (a / b), natS z (a % b)]) [])
  | _ => noC }

theorem size_ok : sizeC.ok Tryz.prog 95 := by
  refine contract Tryz.func95 v95_is R1_ok 200 sizeC fun args k h => ?_
  simp only [sizeC] at h
  split at h
  · rename_i t1 z1 n sz get
    obtain ⟨a, ⟨⟨rfl, hn, ha, hg⟩, rfl⟩, h⟩ := h
    refine ⟨[.vs t1 z1 (nl a) 1 (fun k => [.int .u32 (dig a k)])], by simpa [leL, le] using hg, ?_⟩
    dsimp only [v95, r_end, r_end1, r_nil, r_op, r_opg, r_runOp, r_op0, r_yld0, r_yld1, r_y, r_rbeg, r_rend, r_rend1, r_rfrm, r_rfrm1, r_range, r_rangeK, r_rangeE, r_draw, r_drawT, r_tleaf, r_tops, r_tbr, s_chkF, s_chkT, r_dnil, r_dop, r_dopg, r_dplq, r_dplh, r_dq, r_dq0, r_dcl1, r_dcl0, r_dct1, r_dct0, r_dgd, r_dgq1, r_dgq0, r_dctG, r_op1, r_eff, r_eff0, r_call, r_call0, r_inl, r_g, r_gq, r_gc, r_effg, r_effg0, r_callg, r_callg0, r_fin, r_pre, r_imp, r_all, r_ex, r_fing, r_preg, r_exg, r_inBlock, r_inLoop, r_frame, r_frame1, r_skip, r_stuck, r_region, r_seq, r_cond, r_cond1, r_block, r_exit, r_exit1, r_exit2, r_ret, r_loop, s_args0, s_args1, s_xt, s_xc, u0, u1, u2, w0, w1, noOwn, noOwnL, padL, blankL, callee, calleeM, callArgs, eff, ctOf, ctM, ctI, getL, setL, S.put, S.upd, unopts, unopt, unoptsO, unoptsB, lazyO, guardOf, gbool, eMov, eNot, eNeg, eConv, eExt, eLenArr, eLen, eLenStr, eEqb, eEqv, allEq, eNil, negIf, eBool2, eCmp, eAri, ari, eBit, eDiv, eSh, eMinMax, foldMin, foldMax, kEq, pure1, cmpB, VO.quiet, resVals, resVal, tupled, popRet, popTo, cond, Option.bind, Option.map, eNew, eBox, asCells, lenH, snocH, eFieldAddr, eField, eLoad, cellsAt, getH, setH, dropL, takeL, mkAgg, lenL, lenS, shift, shiftL, shiftH, viewN, viewL, view, andT, junks, List.append_nil, Nat.beq, eIdxAddr, eIdxArr, idxN_0, idxN_1, idxN_2, idxN_3, eIndex, eStore, storeAt, spliceL, ones, one, eSlice, eSliceArr, bounds, subLo_z, addLo_z, subLo_one, addLo_one, eMake, eAppend, readS, repL, buildCells, chunk, purgeL, purgeLL, purgeH, purge, refs, refsL, List.cons_append, List.nil_append, wrOps, wrAl, wrDops, wrC, junkAt, putAll, putHs, headOf, headK, keepG, List.append_eq, headX, VO.isAppend, chkG, chkA, napP, napB, there, wrDtr, chkP, apartP, apartB, blk, strip, runAl, AL.ho, yld, putPs, lenN, findR, notRound, jumpK, jumpPT, jcode, List.map_cons, List.map_nil, ite_self, reduceIte]
    simp only [true_and, and_true, imp_self, implies_true, decide_eq_true_eq, decide_eq_false_iff_not, Nat.reduceAdd, Nat.reduceLeDiff, Bool.not_not, reduceCtorEq, false_imp_iff, Bool.not_eq_true', Bool.not_eq_false', Bool.false_eq_true, and_self, forall_const, ne_eq, not_false_eq_true, Nat.reduceEqDiff]
    refine ⟨fun h0 => ans_int ?_, fun h0 => ?_⟩
    · have : a = 0 := nl_eq0.1 (by omega)
      subst this
      exact h
    · obtain ⟨m, hm⟩ : ∃ m, nl a = m + 1 := ⟨nl a - 1, by omega⟩
      have w1 : IntKind.i64.wrap ((nl a : Int) - 1) = (m : Int) := by rw [IntWalk.i64_in _ (by omega)]; omega
      rw [w1]
      simp only [Int.toNat_natCast]
      refine ⟨⟨by omega, by omega⟩, ?_⟩
      refine Loop.keep [3, 0] (Nat × Nat) (fun x => [(3, .int .i64 x.1), (4, .int .u32 x.2)]) (fun _ => []) [] (fun x => x.1 + bitsN x.2 = bitsN a ∧ x.2 < 4294967296) (fun x => bitsN x.2) ?_ ?_
      · refine ⟨(32 * m, dig a m), ⟨(bitsN_top hm).symm, dig_lt _ _⟩, ?_⟩
        dsimp only [r_end, r_end1, r_nil, r_op, r_opg, r_runOp, r_op0, r_yld0, r_yld1, r_y, r_rbeg, r_rend, r_rend1, r_rfrm, r_rfrm1, r_range, r_rangeK, r_rangeE, r_draw, r_drawT, r_tleaf, r_tops, r_tbr, s_chkF, s_chkT, r_dnil, r_dop, r_dopg, r_dplq, r_dplh, r_dq, r_dq0, r_dcl1, r_dcl0, r_dct1, r_dct0, r_dgd, r_dgq1, r_dgq0, r_dctG, r_op1, r_eff, r_eff0, r_call, r_call0, r_inl, r_g, r_gq, r_gc, r_effg, r_effg0, r_callg, r_callg0, r_fin, r_pre, r_imp, r_all, r_ex, r_fing, r_preg, r_exg, r_inBlock, r_inLoop, r_frame, r_frame1, r_skip, r_stuck, r_region, r_seq, r_cond, r_cond1, r_block, r_exit, r_exit1, r_exit2, r_ret, r_loop, s_args0, s_args1, s_xt, s_xc, u0, u1, u2, w0, w1, noOwn, noOwnL, padL, blankL, callee, calleeM, callArgs, eff, ctOf, ctM, ctI, getL, setL, S.put, S.upd, unopts, unopt, unoptsO, unoptsB, lazyO, guardOf, gbool, eMov, eNot, eNeg, eConv, eExt, eLenArr, eLen, eLenStr, eEqb, eEqv, allEq, eNil, negIf, eBool2, eCmp, eAri, ari, eBit, eDiv, eSh, eMinMax, foldMin, foldMax, kEq, pure1, cmpB, VO.quiet, resVals, resVal, tupled, popRet, popTo, cond, Option.bind, Option.map, eNew, eBox, asCells, lenH, snocH, eFieldAddr, eField, eLoad, cellsAt, getH, setH, dropL, takeL, mkAgg, lenL, lenS, shift, shiftL, shiftH, viewN, viewL, view, andT, junks, List.append_nil, Nat.beq, eIdxAddr, eIdxArr, idxN_0, idxN_1, idxN_2, idxN_3, eIndex, eStore, storeAt, spliceL, ones, one, eSlice, eSliceArr, bounds, subLo_z, addLo_z, subLo_one, addLo_one, eMake, eAppend, readS, repL, buildCells, chunk, purgeL, purgeLL, purgeH, purge, refs, refsL, List.cons_append, List.nil_append, wrOps, wrAl, wrDops, wrC, junkAt, putAll, putHs, headOf, headK, keepG, List.append_eq, headX, VO.isAppend, chkG, chkA, napP, napB, there, wrDtr, chkP, apartP, apartB, blk, strip, runAl, AL.ho, yld, putPs, lenN, findR, notRound, jumpK, jumpPT, jcode, List.map_cons, List.map_nil, ite_self, reduceIte]
        simp only [leS_mk, leL_cons, leL_nil, le_junk, le_int, le_bool, le_nil, leLL_nil, leLL_cons, leH_cons, leH_nil, leH1_box, leH1_own, leH1_gone, le_vs, le_agg, le_tup, le_ptr, le_own, le_xp, le_fn, le_opt, le_val, le_elem, le_nil_own, le_nil_vs, leH_ghost, leL_chunk, leXL_id, bnd_int, bnd_bool, bnd_val, bnd_nil, bnd_junk, bnd_vs, bnd_xp, bnd_agg, bnd_tup, bnd_ptr, bnd_own, bnd_elem, bnd_fn, bnd_iface, bnd_opt, bndL_nil, bndL_cons, lenH_cons, lenH_nil, imp_self, implies_true, true_and, and_true]
        rw [IntWalk.i64_in _ (by omega)]
        simp
      · rintro ⟨c, t⟩ ⟨hc, ht⟩
        dsimp only at hc ht
        dsimp only [r_end, r_end1, r_nil, r_op, r_opg, r_runOp, r_op0, r_yld0, r_yld1, r_y, r_rbeg, r_rend, r_rend1, r_rfrm, r_rfrm1, r_range, r_rangeK, r_rangeE, r_draw, r_drawT, r_tleaf, r_tops, r_tbr, s_chkF, s_chkT, r_dnil, r_dop, r_dopg, r_dplq, r_dplh, r_dq, r_dq0, r_dcl1, r_dcl0, r_dct1, r_dct0, r_dgd, r_dgq1, r_dgq0, r_dctG, r_op1, r_eff, r_eff0, r_call, r_call0, r_inl, r_g, r_gq, r_gc, r_effg, r_effg0, r_callg, r_callg0, r_fin, r_pre, r_imp, r_all, r_ex, r_fing, r_preg, r_exg, r_inBlock, r_inLoop, r_frame, r_frame1, r_skip, r_stuck, r_region, r_seq, r_cond, r_cond1, r_block, r_exit, r_exit1, r_exit2, r_ret, r_loop, s_args0, s_args1, s_xt, s_xc, u0, u1, u2, w0, w1, noOwn, noOwnL, padL, blankL, callee, calleeM, callArgs, eff, ctOf, ctM, ctI, getL, setL, S.put, S.upd, unopts, unopt, unoptsO, unoptsB, lazyO, guardOf, gbool, eMov, eNot, eNeg, eConv, eExt, eLenArr, eLen, eLenStr, eEqb, eEqv, allEq, eNil, negIf, eBool2, eCmp, eAri, ari, eBit, eDiv, eSh, eMinMax, foldMin, foldMax, kEq, pure1, cmpB, VO.quiet, resVals, resVal, tupled, popRet, popTo, cond, Option.bind, Option.map, eNew, eBox, asCells, lenH, snocH, eFieldAddr, eField, eLoad, cellsAt, getH, setH, dropL, takeL, mkAgg, lenL, lenS, shift, shiftL, shiftH, viewN, viewL, view, andT, junks, List.append_nil, Nat.beq, eIdxAddr, eIdxArr, idxN_0, idxN_1, idxN_2, idxN_3, eIndex, eStore, storeAt, spliceL, ones, one, eSlice, eSliceArr, bounds, subLo_z, addLo_z, subLo_one, addLo_one, eMake, eAppend, readS, repL, buildCells, chunk, purgeL, purgeLL, purgeH, purge, refs, refsL, List.cons_append, List.nil_append, wrOps, wrAl, wrDops, wrC, junkAt, putAll, putHs, headOf, headK, keepG, List.append_eq, headX, VO.isAppend, chkG, chkA, napP, napB, there, wrDtr, chkP, apartP, apartB, blk, strip, runAl, AL.ho, yld, putPs, lenN, findR, notRound, jumpK, jumpPT, jcode, List.map_cons, List.map_nil, ite_self, reduceIte]
        simp only [true_and, and_true, imp_self, implies_true, decide_eq_true_eq, decide_eq_false_iff_not, Nat.reduceAdd, Nat.reduceLeDiff, Bool.not_not, reduceCtorEq, false_imp_iff, Bool.not_eq_true', Bool.not_eq_false', Bool.false_eq_true, and_self, forall_const, ne_eq, not_false_eq_true, Nat.reduceEqDiff]
        have hbl : bitsN a ≤ 32 * 100000 := Nat.le_trans (bitsN_nl a) (by omega)
        refine ⟨fun hpos => ?_, fun hz => ans_int ?_⟩
        · have hh := bitsN_half (a := t) (by omega)
          refine ⟨by decide, (c + 1, t / 2), ⟨by simp only; omega, by simp only; omega⟩, by simp only; omega, ?_⟩
          have e2 : IntKind.u32.wrap ((t : Int).tdiv 2) = ((t / 2 : Nat) : Int) := by
            have : (t : Int).tdiv 2 = ((t / 2 : Nat) : Int) := IntWalk.up_tdiv (y := 2) rfl rfl
            rw [this]; exact u3_nat (by omega)
          rw [e2, IntWalk.i64_in _ (by omega)]
          simp only [leS_mk, leL_cons, leL_nil, le_junk, le_int, le_bool, le_nil, leLL_nil, leLL_cons, leH_cons, leH_nil, leH1_box, leH1_own, leH1_gone, le_vs, le_agg, le_tup, le_ptr, le_own, le_xp, le_fn, le_opt, le_val, le_elem, le_nil_own, le_nil_vs, leH_ghost, leL_chunk, leXL_id, bnd_int, bnd_bool, bnd_val, bnd_nil, bnd_junk, bnd_vs, bnd_xp, bnd_agg, bnd_tup, bnd_ptr, bnd_own, bnd_elem, bnd_fn, bnd_iface, bnd_opt, bndL_nil, bndL_cons, lenH_cons, lenH_nil, imp_self, implies_true, true_and, and_true]
          simp
        · obtain rfl : t = 0 := by omega
          rw [bitsN_0, Nat.add_zero] at hc
          rw [← hc] at h
          exact h
  · exact h.1.elim

theorem bit_ok : bitC.ok Tryz.prog 110 := by
  refine contract Tryz.func110 v110_is R1_ok 200 bitC fun args k h => ?_
  simp only [bitC] at h
  split at h
  · rename_i t1 z1 n sz get i
    obtain ⟨a, ⟨⟨rfl, hn, ha, hg⟩, h0, h1⟩, h⟩ := h
    obtain ⟨i, rfl⟩ := Int.eq_ofNat_of_zero_le h0
    refine ⟨[.vs t1 z1 n 1 (fun k => [.int .u32 (dig a k)]), .int .i64 i], ⟨by simpa [le] using hg, ⟨rfl, rfl⟩, trivial⟩, ?_⟩
    dsimp only [v110, bitI, r_end, r_end1, r_nil, r_op, r_opg, r_runOp, r_op0, r_yld0, r_yld1, r_y, r_rbeg, r_rend, r_rend1, r_rfrm, r_rfrm1, r_range, r_rangeK, r_rangeE, r_draw, r_drawT, r_tleaf, r_tops, r_tbr, s_chkF, s_chkT, r_dnil, r_dop, r_dopg, r_dplq, r_dplh, r_dq, r_dq0, r_dcl1, r_dcl0, r_dct1, r_dct0, r_dgd, r_dgq1, r_dgq0, r_dctG, r_op1, r_eff, r_eff0, r_call, r_call0, r_inl, r_g, r_gq, r_gc, r_effg, r_effg0, r_callg, r_callg0, r_fin, r_pre, r_imp, r_all, r_ex, r_fing, r_preg, r_exg, r_inBlock, r_inLoop, r_frame, r_frame1, r_skip, r_stuck, r_region, r_seq, r_cond, r_cond1, r_block, r_exit, r_exit1, r_exit2, r_ret, r_loop, s_args0, s_args1, s_xt, s_xc, u0, u1, u2, w0, w1, noOwn, noOwnL, padL, blankL, callee, calleeM, callArgs, eff, ctOf, ctM, ctI, getL, setL, S.put, S.upd, unopts, unopt, unoptsO, unoptsB, lazyO, guardOf, gbool, eMov, eNot, eNeg, eConv, eExt, eLenArr, eLen, eLenStr, eEqb, eEqv, allEq, eNil, negIf, eBool2, eCmp, eAri, ari, eBit, eDiv, eSh, eMinMax, foldMin, foldMax, kEq, pure1, cmpB, VO.quiet, resVals, resVal, tupled, popRet, popTo, cond, Option.bind, Option.map, eNew, eBox, asCells, lenH, snocH, eFieldAddr, eField, eLoad, cellsAt, getH, setH, dropL, takeL, mkAgg, lenL, lenS, shift, shiftL, shiftH, viewN, viewL, view, andT, junks, List.append_nil, Nat.beq, eIdxAddr, eIdxArr, idxN_0, idxN_1, idxN_2, idxN_3, eIndex, eStore, storeAt, spliceL, ones, one, eSlice, eSliceArr, bounds, subLo_z, addLo_z, subLo_one, addLo_one, eMake, eAppend, readS, repL, buildCells, chunk, purgeL, purgeLL, purgeH, purge, refs, refsL, List.cons_append, List.nil_append, wrOps, wrAl, wrDops, wrC, junkAt, putAll, putHs, headOf, headK, keepG, List.append_eq, headX, VO.isAppend, chkG, chkA, napP, napB, there, wrDtr, chkP, apartP, apartB, blk, strip, runAl, AL.ho, yld, putPs, lenN, findR, notRound, jumpK, jumpPT, jcode, List.map_cons, List.map_nil, ite_self, reduceIte]
    simp only [true_and, and_true, imp_self, implies_true, decide_eq_true_eq, decide_eq_false_iff_not, Nat.reduceAdd, Nat.reduceLeDiff, Bool.not_not, reduceCtorEq, false_imp_iff, Bool.not_eq_true', Bool.not_eq_false', Bool.false_eq_true, and_self, forall_const, ne_eq, not_false_eq_true, Nat.reduceEqDiff]
    have e1 : IntKind.i64.wrap ((i : Int).tdiv 32) = ((i / 32 : Nat) : Int) := by
      have : (i : Int).tdiv 32 = ((i / 32 : Nat) : Int) := IntWalk.up_tdiv (y := 32) rfl rfl
      rw [this, IntWalk.i64_in _ (by omega)]
    have e2 : (i : Int).tmod 32 = ((i % 32 : Nat) : Int) := IntWalk.up_tmod (y := 32) rfl rfl
    rw [e1, e2]
    simp only [Int.toNat_natCast]
    refine ⟨by decide, ⟨by omega, by omega⟩, by decide, by omega, ans_int ?_⟩
    have e3 : ((dig a (i / 32) : Nat) : Int).fdiv (2 ^ min (i % 32) IntKind.u32.bits) = ((dig a (i / 32) / 2 ^ (i % 32) : Nat) : Int) := by
      have : min (i % 32) IntKind.u32.bits = i % 32 := by show min (i % 32) 32 = _; omega
      rw [this, Int.fdiv_eq_ediv_of_nonneg _ (Int.le_of_lt (Int.pow_pos (by decide)))]
      simp
    rw [e3]
    have := and_one (dig a (i / 32) / 2 ^ (i % 32))
    rw [show IntKind.u32.bits = 32 from rfl, this, ← bitN_dig]
    exact h
  · exact h.1.elim

theorem double_ok : doubleC.ok Tryz.prog 114 := by
  refine contract Tryz.func114 v114_is R1_ok 200 doubleC fun args k h => ?_
  simp only [doubleC] at h
  split at h
  · rename_i t1 z1 n sz get x
    obtain ⟨a, ⟨⟨rfl, hn, ha, hg⟩, h0, h1, hn9⟩, h⟩ := h
    obtain ⟨x, rfl⟩ := Int.eq_ofNat_of_zero_le h0
    have hx : x ≤ 1 := by omega
    refine ⟨[.vs t1 z1 n 1 (fun k => [.int .u32 (dig a k)]), .int .u32 x], ⟨by simpa [le] using hg, ⟨rfl, rfl⟩, trivial⟩, ?_⟩
    dsimp only [v114, r_end, r_end1, r_nil, r_op, r_opg, r_runOp, r_op0, r_yld0, r_yld1, r_y, r_rbeg, r_rend, r_rend1, r_rfrm, r_rfrm1, r_range, r_rangeK, r_rangeE, r_draw, r_drawT, r_tleaf, r_tops, r_tbr, s_chkF, s_chkT, r_dnil, r_dop, r_dopg, r_dplq, r_dplh, r_dq, r_dq0, r_dcl1, r_dcl0, r_dct1, r_dct0, r_dgd, r_dgq1, r_dgq0, r_dctG, r_op1, r_eff, r_eff0, r_call, r_call0, r_inl, r_g, r_gq, r_gc, r_effg, r_effg0, r_callg, r_callg0, r_fin, r_pre, r_imp, r_all, r_ex, r_fing, r_preg, r_exg, r_inBlock, r_inLoop, r_frame, r_frame1, r_skip, r_stuck, r_region, r_seq, r_cond, r_cond1, r_block, r_exit, r_exit1, r_exit2, r_ret, r_loop, s_args0, s_args1, s_xt, s_xc, u0, u1, u2, w0, w1, noOwn, noOwnL, padL, blankL, callee, calleeM, callArgs, eff, ctOf, ctM, ctI, getL, setL, S.put, S.upd, unopts, unopt, unoptsO, unoptsB, lazyO, guardOf, gbool, eMov, eNot, eNeg, eConv, eExt, eLenArr, eLen, eLenStr, eEqb, eEqv, allEq, eNil, negIf, eBool2, eCmp, eAri, ari, eBit, eDiv, eSh, eMinMax, foldMin, foldMax, kEq, pure1, cmpB, VO.quiet, resVals, resVal, tupled, popRet, popTo, cond, Option.bind, Option.map, eNew, eBox, asCells, lenH, snocH, eFieldAddr, eField, eLoad, cellsAt, getH, setH, dropL, takeL, mkAgg, lenL, lenS, shift, shiftL, shiftH, viewN, viewL, view, andT, junks, List.append_nil, Nat.beq, eIdxAddr, eIdxArr, idxN_0, idxN_1, idxN_2, idxN_3, eIndex, eStore, storeAt, spliceL, ones, one, eSlice, eSliceArr, bounds, subLo_z, addLo_z, subLo_one, addLo_one, eMake, eAppend, readS, repL, buildCells, chunk, purgeL, purgeLL, purgeH, purge, refs, refsL, List.cons_append, List.nil_append, wrOps, wrAl, wrDops, wrC, junkAt, putAll, putHs, headOf, headK, keepG, List.append_eq, headX, VO.isAppend, chkG, chkA, napP, napB, there, wrDtr, chkP, apartP, apartB, blk, strip, runAl, AL.ho, yld, putPs, lenN, findR, notRound, jumpK, jumpPT, jcode, List.map_cons, List.map_nil, ite_self, reduceIte]
    simp only [true_and, and_true, imp_self, implies_true, decide_eq_true_eq, decide_eq_false_iff_not, Nat.reduceAdd, Nat.reduceLeDiff, Bool.not_not, reduceCtorEq, false_imp_iff, Bool.not_eq_true', Bool.not_eq_false', Bool.false_eq_true, and_self, forall_const, ne_eq, not_false_eq_true, Nat.reduceEqDiff]
    have en : IntKind.i64.wrap ((n : Int) + 1) = ((n + 1 : Nat) : Int) := by rw [IntWalk.i64_in _ (by omega)]; omega
    rw [en]
    simp only [Int.toNat_natCast]
    refine ⟨⟨by decide, by omega, by unfold capOk; omega⟩, ?_⟩
    refine Loop.keep [0, 4] Nat (fun i => [(1, .int .u32 (dcy a x i)), (6, .int .i64 i)]) (fun i => [(0, .own false 1 (n + 1) (fun k => [.int .u32 (dig ((2 * a + x) % 4294967296 ^ i) k)]))]) [] (fun i => i ≤ n) (fun i => n - i) ?_ ?_
    · refine ⟨0, by omega, ?_⟩
      dsimp only [r_end, r_end1, r_nil, r_op, r_opg, r_runOp, r_op0, r_yld0, r_yld1, r_y, r_rbeg, r_rend, r_rend1, r_rfrm, r_rfrm1, r_range, r_rangeK, r_rangeE, r_draw, r_drawT, r_tleaf, r_tops, r_tbr, s_chkF, s_chkT, r_dnil, r_dop, r_dopg, r_dplq, r_dplh, r_dq, r_dq0, r_dcl1, r_dcl0, r_dct1, r_dct0, r_dgd, r_dgq1, r_dgq0, r_dctG, r_op1, r_eff, r_eff0, r_call, r_call0, r_inl, r_g, r_gq, r_gc, r_effg, r_effg0, r_callg, r_callg0, r_fin, r_pre, r_imp, r_all, r_ex, r_fing, r_preg, r_exg, r_inBlock, r_inLoop, r_frame, r_frame1, r_skip, r_stuck, r_region, r_seq, r_cond, r_cond1, r_block, r_exit, r_exit1, r_exit2, r_ret, r_loop, s_args0, s_args1, s_xt, s_xc, u0, u1, u2, w0, w1, noOwn, noOwnL, padL, blankL, callee, calleeM, callArgs, eff, ctOf, ctM, ctI, getL, setL, S.put, S.upd, unopts, unopt, unoptsO, unoptsB, lazyO, guardOf, gbool, eMov, eNot, eNeg, eConv, eExt, eLenArr, eLen, eLenStr, eEqb, eEqv, allEq, eNil, negIf, eBool2, eCmp, eAri, ari, eBit, eDiv, eSh, eMinMax, foldMin, foldMax, kEq, pure1, cmpB, VO.quiet, resVals, resVal, tupled, popRet, popTo, cond, Option.bind, Option.map, eNew, eBox, asCells, lenH, snocH, eFieldAddr, eField, eLoad, cellsAt, getH, setH, dropL, takeL, mkAgg, lenL, lenS, shift, shiftL, shiftH, viewN, viewL, view, andT, junks, List.append_nil, Nat.beq, eIdxAddr, eIdxArr, idxN_0, idxN_1, idxN_2, idxN_3, eIndex, eStore, storeAt, spliceL, ones, one, eSlice, eSliceArr, bounds, subLo_z, addLo_z, subLo_one, addLo_one, eMake, eAppend, readS, repL, buildCells, chunk, purgeL, purgeLL, purgeH, purge, refs, refsL, List.cons_append, List.nil_append, wrOps, wrAl, wrDops, wrC, junkAt, putAll, putHs, headOf, headK, keepG, List.append_eq, headX, VO.isAppend, chkG, chkA, napP, napB, there, wrDtr, chkP, apartP, apartB, blk, strip, runAl, AL.ho, yld, putPs, lenN, findR, notRound, jumpK, jumpPT, jcode, List.map_cons, List.map_nil, ite_self, reduceIte]
      simp only [leS_mk, leL_cons, leL_nil, le_junk, le_int, le_bool, le_nil, leLL_nil, leLL_cons, leH_cons, leH_nil, leH1_box, leH1_own, leH1_gone, le_vs, le_agg, le_tup, le_ptr, le_own, le_xp, le_fn, le_opt, le_val, le_elem, le_nil_own, le_nil_vs, leH_ghost, leL_chunk, leXL_id, bnd_int, bnd_bool, bnd_val, bnd_nil, bnd_junk, bnd_vs, bnd_xp, bnd_agg, bnd_tup, bnd_ptr, bnd_own, bnd_elem, bnd_fn, bnd_iface, bnd_opt, bndL_nil, bndL_cons, lenH_cons, lenH_nil, imp_self, implies_true, true_and, and_true]
      simp [Nat.mod_one, dig_zero, leL, le, dcy_0]
    · rintro i hi
      dsimp only [R1_ct99, trimC, natS, bitI, Int.toNat_natCast, r_end, r_end1, r_nil, r_op, r_opg, r_runOp, r_op0, r_yld0, r_yld1, r_y, r_rbeg, r_rend, r_rend1, r_rfrm, r_rfrm1, r_range, r_rangeK, r_rangeE, r_draw, r_drawT, r_tleaf, r_tops, r_tbr, s_chkF, s_chkT, r_dnil, r_dop, r_dopg, r_dplq, r_dplh, r_dq, r_dq0, r_dcl1, r_dcl0, r_dct1, r_dct0, r_dgd, r_dgq1, r_dgq0, r_dctG, r_op1, r_eff, r_eff0, r_call, r_call0, r_inl, r_g, r_gq, r_gc, r_effg, r_effg0, r_callg, r_callg0, r_fin, r_pre, r_imp, r_all, r_ex, r_fing, r_preg, r_exg, r_inBlock, r_inLoop, r_frame, r_frame1, r_skip, r_stuck, r_region, r_seq, r_cond, r_cond1, r_block, r_exit, r_exit1, r_exit2, r_ret, r_loop, s_args0, s_args1, s_xt, s_xc, u0, u1, u2, w0, w1, noOwn, noOwnL, padL, blankL, callee, calleeM, callArgs, eff, ctOf, ctM, ctI, getL, setL, S.put, S.upd, unopts, unopt, unoptsO, unoptsB, lazyO, guardOf, gbool, eMov, eNot, eNeg, eConv, eExt, eLenArr, eLen, eLenStr, eEqb, eEqv, allEq, eNil, negIf, eBool2, eCmp, eAri, ari, eBit, eDiv, eSh, eMinMax, foldMin, foldMax, kEq, pure1, cmpB, VO.quiet, resVals, resVal, tupled, popRet, popTo, cond, Option.bind, Option.map, eNew, eBox, asCells, lenH, snocH, eFieldAddr, eField, eLoad, cellsAt, getH, setH, dropL, takeL, mkAgg, lenL, lenS, shift, shiftL, shiftH, viewN, viewL, view, andT, junks, List.append_nil, Nat.beq, eIdxAddr, eIdxArr, idxN_0, idxN_1, idxN_2, idxN_3, eIndex, eStore, storeAt, spliceL, ones, one, eSlice, eSliceArr, bounds, subLo_z, addLo_z, subLo_one, addLo_one, eMake, eAppend, readS, repL, buildCells, chunk, purgeL, purgeLL, purgeH, purge, refs, refsL, List.cons_append, List.nil_append, wrOps, wrAl, wrDops, wrC, junkAt, putAll, putHs, headOf, headK, keepG, List.append_eq, headX, VO.isAppend, chkG, chkA, napP, napB, there, wrDtr, chkP, apartP, apartB, blk, strip, runAl, AL.ho, yld, putPs, lenN, findR, notRound, jumpK, jumpPT, jcode, List.map_cons, List.map_nil, ite_self, reduceIte]
      simp only [true_and, and_true, imp_self, implies_true, decide_eq_true_eq, decide_eq_false_iff_not, Nat.reduceAdd, Nat.reduceLeDiff, Bool.not_not, reduceCtorEq, false_imp_iff, Bool.not_eq_true', Bool.not_eq_false', Bool.false_eq_true, and_self, forall_const, ne_eq, not_false_eq_true, Nat.reduceEqDiff]
      have hc := dcy_le (a := a) (i := i) hx
      have hdl := dig_lt a i
      have e1 := dbl_dig a x i
      have e2 := dbl_cy a x i
      refine ⟨fun hlt => ⟨⟨by omega, by omega⟩, by decide, ⟨by omega, by omega⟩, by omega, ⟨by omega, by omega⟩, by decide, i + 1, by omega, by omega, ?_⟩, fun hge => ?_⟩
      · have w1 := dbl_or hdl hc
        have w2 := @dbl_shr (dig a i)
        rw [show IntKind.u32.bits = 32 from rfl, w1, w2, e1, ← e2, IntWalk.i64_in ((i : Int) + 1) (by omega)]
        simp only [leS_mk, leL_cons, leL_nil, le_junk, le_int, le_bool, le_nil, leLL_nil, leLL_cons, leH_cons, leH_nil, leH1_box, leH1_own, leH1_gone, le_vs, le_agg, le_tup, le_ptr, le_own, le_xp, le_fn, le_opt, le_val, le_elem, le_nil_own, le_nil_vs, leH_ghost, leL_chunk, leXL_id, bnd_int, bnd_bool, bnd_val, bnd_nil, bnd_junk, bnd_vs, bnd_xp, bnd_agg, bnd_tup, bnd_ptr, bnd_own, bnd_elem, bnd_fn, bnd_iface, bnd_opt, bndL_nil, bndL_cons, lenH_cons, lenH_nil, imp_self, implies_true, true_and, and_true]
        refine ⟨⟨by omega, by simp⟩, fun j hj => ?_⟩
        rw [dig_mod_if, dig_mod_if]
        split
        · rename_i hji; subst hji; rw [if_pos (Nat.lt_succ_self _)]; simp only [leL, le, and_self]
        · split
          · rw [if_pos (by omega)]; simp only [leL, le, and_self]
          · rw [if_neg (by omega)]; simp only [leL, le, and_self]
      · obtain rfl : i = n := by omega
        have htop := (dcy_top (x := x) ha).resolve_right (by omega)
        refine ⟨by omega, by omega, 2 * a + x, ⟨rfl, by omega, by rw [pw_succ]; omega, fun j hj => ?_⟩, ans_natS (t := true) h⟩
        dsimp only
        rcases Nat.lt_or_ge j i with h' | h'
        · rw [if_neg (by omega), dig_mod h']; exact leXL_self _
        · obtain rfl : j = i := by omega
          rw [if_pos rfl, htop]; exact leXL_self _
  · exact h.1.elim
def R3 : Env := { ct := fun n => match n with | 99 => some trimC | 71 => some orderC | 115 => some minusC | 95 => some sizeC | 110 => some bitC | 114 => some doubleC | _ => none, fn := fun _ => none, meth := fun _ _ => none }
theorem R3_ct99 : R3.ct 99 = some trimC := rfl
theorem R3_ct71 : R3.ct 71 = some orderC := rfl
theorem R3_ct115 : R3.ct 115 = some minusC := rfl
theorem R3_ct95 : R3.ct 95 = some sizeC := rfl
theorem R3_ct110 : R3.ct 110 = some bitC := rfl
theorem R3_ct114 : R3.ct 114 = some doubleC := rfl
theorem R3_ok : EnvOk Tryz.prog R3 := by
  refine ⟨fun f c h => ?_, fun f vf h => ?_, (fun _ _ _ h => by cases h), by kernel_rfl⟩
  · simp only [R3] at h
    split at h
    · cases h; exact ⟨trim_ok, Tryz.f99, Tryz.func99, by kernel_rfl, by kernel_rfl⟩
    · cases h; exact ⟨order_ok, Tryz.f71, Tryz.func71, by kernel_rfl, by kernel_rfl⟩
    · cases h; exact ⟨minus_ok, Tryz.f115, Tryz.func115, by kernel_rfl, by kernel_rfl⟩
    · cases h; exact ⟨size_ok, Tryz.f95, Tryz.func95, by kernel_rfl, by kernel_rfl⟩
    · cases h; exact ⟨bit_ok, Tryz.f110, Tryz.func110, by kernel_rfl, by kernel_rfl⟩
    · cases h; exact ⟨double_ok, Tryz.f114, Tryz.func114, by kernel_rfl, by kernel_rfl⟩
    · cases h
  · cases h


theorem divide_ok : divideC.ok Tryz.prog 107 := by
  refine contract Tryz.func107 v107_is R3_ok 300 divideC fun args k h => ?_
  simp only [divideC] at h
  split at h
  · rename_i t1 z1 n sz get t2 z2 m sz' get'
    obtain ⟨a, b, ⟨⟨rfl, hn, ha, hg⟩, rfl, ⟨rfl, hm, hb, hg'⟩, hb0, hm9, hn9⟩, h⟩ := h
    refine ⟨[.vs t1 z1 (nl a) 1 (fun k => [.int .u32 (dig a k)]), .vs t2 z2 m 1 (fun k => [.int .u32 (dig b k)])], ⟨by simpa [le] using hg, by simpa [le] using hg', trivial⟩, ?_⟩
    dsimp only [v107, R3_ct95, sizeC, r_end, r_end1, r_nil, r_op, r_opg, r_runOp, r_op0, r_yld0, r_yld1, r_y, r_rbeg, r_rend, r_rend1, r_rfrm, r_rfrm1, r_range, r_rangeK, r_rangeE, r_draw, r_drawT, r_tleaf, r_tops, r_tbr, s_chkF, s_chkT, r_dnil, r_dop, r_dopg, r_dplq, r_dplh, r_dq, r_dq0, r_dcl1, r_dcl0, r_dct1, r_dct0, r_dgd, r_dgq1, r_dgq0, r_dctG, r_op1, r_eff, r_eff0, r_call, r_call0, r_inl, r_g, r_gq, r_gc, r_effg, r_effg0, r_callg, r_callg0, r_fin, r_pre, r_imp, r_all, r_ex, r_fing, r_preg, r_exg, r_inBlock, r_inLoop, r_frame, r_frame1, r_skip, r_stuck, r_region, r_seq, r_cond, r_cond1, r_block, r_exit, r_exit1, r_exit2, r_ret, r_loop, s_args0, s_args1, s_xt, s_xc, u0, u1, u2, w0, w1, noOwn, noOwnL, padL, blankL, callee, calleeM, callArgs, eff, ctOf, ctM, ctI, getL, setL, S.put, S.upd, unopts, unopt, unoptsO, unoptsB, lazyO, guardOf, gbool, eMov, eNot, eNeg, eConv, eExt, eLenArr, eLen, eLenStr, eEqb, eEqv, allEq, eNil, negIf, eBool2, eCmp, eAri, ari, eBit, eDiv, eSh, eMinMax, foldMin, foldMax, kEq, pure1, cmpB, VO.quiet, resVals, resVal, tupled, popRet, popTo, cond, Option.bind, Option.map, eNew, eBox, asCells, lenH, snocH, eFieldAddr, eField, eLoad, cellsAt, getH, setH, dropL, takeL, mkAgg, lenL, lenS, shift, shiftL, shiftH, viewN, viewL, view, andT, junks, List.append_nil, Nat.beq, eIdxAddr, eIdxArr, idxN_0, idxN_1, idxN_2, idxN_3, eIndex, eStore, storeAt, spliceL, ones, one, eSlice, eSliceArr, bounds, subLo_z, addLo_z, subLo_one, addLo_one, eMake, eAppend, readS, repL, buildCells, chunk, purgeL, purgeLL, purgeH, purge, refs, refsL, List.cons_append, List.nil_append, wrOps, wrAl, wrDops, wrC, junkAt, putAll, putHs, headOf, headK, keepG, List.append_eq, headX, VO.isAppend, chkG, chkA, napP, napB, there, wrDtr, chkP, apartP, apartB, blk, strip, runAl, AL.ho, yld, putPs, lenN, findR, notRound, jumpK, jumpPT, jcode, List.map_cons, List.map_nil, ite_self, reduceIte]
    simp only [true_and, and_true, imp_self, implies_true, decide_eq_true_eq, decide_eq_false_iff_not, Nat.reduceAdd, Nat.reduceLeDiff, Bool.not_not, reduceCtorEq, false_imp_iff, Bool.not_eq_true', Bool.not_eq_false', Bool.false_eq_true, and_self, forall_const, ne_eq, not_false_eq_true, Nat.reduceEqDiff]
    simp only [Int.toNat_natCast]
    have hbl := bitsN_nl a
    refine ⟨⟨by decide, by omega, by unfold capOk; omega⟩, a, ⟨padP_self hn ha, rfl⟩, ?_⟩
    refine Loop.keep [0, 0, 4] (Nat × Nat × Nat × Bool) (fun x => [(7, .vs true x.2.2.2 (nl x.2.2.1) 1 (fun k => [.int .u32 (dig x.2.2.1 k)])), (8, .int .i64 ((x.1 : Int) - 1))]) (fun x => [(0, .own false 1 (nl a) (fun k => [.int .u32 (dig x.2.1 k)]))]) [] (fun x => x.1 ≤ bitsN a ∧ a / 2 ^ x.1 = x.2.1 / 2 ^ x.1 * b + x.2.2.1 ∧ x.2.1 % 2 ^ x.1 = 0 ∧ x.2.2.1 < b) (fun x => x.1) ?_ ?_
    · refine ⟨(bitsN a, 0, 0, true), ⟨Nat.le_refl _, ?_, by simp, hb0⟩, ?_⟩
      · rw [Nat.div_eq_of_lt (bitsN_lt a)]; simp
      · dsimp only [r_end, r_end1, r_nil, r_op, r_opg, r_runOp, r_op0, r_yld0, r_yld1, r_y, r_rbeg, r_rend, r_rend1, r_rfrm, r_rfrm1, r_range, r_rangeK, r_rangeE, r_draw, r_drawT, r_tleaf, r_tops, r_tbr, s_chkF, s_chkT, r_dnil, r_dop, r_dopg, r_dplq, r_dplh, r_dq, r_dq0, r_dcl1, r_dcl0, r_dct1, r_dct0, r_dgd, r_dgq1, r_dgq0, r_dctG, r_op1, r_eff, r_eff0, r_call, r_call0, r_inl, r_g, r_gq, r_gc, r_effg, r_effg0, r_callg, r_callg0, r_fin, r_pre, r_imp, r_all, r_ex, r_fing, r_preg, r_exg, r_inBlock, r_inLoop, r_frame, r_frame1, r_skip, r_stuck, r_region, r_seq, r_cond, r_cond1, r_block, r_exit, r_exit1, r_exit2, r_ret, r_loop, s_args0, s_args1, s_xt, s_xc, u0, u1, u2, w0, w1, noOwn, noOwnL, padL, blankL, callee, calleeM, callArgs, eff, ctOf, ctM, ctI, getL, setL, S.put, S.upd, unopts, unopt, unoptsO, unoptsB, lazyO, guardOf, gbool, eMov, eNot, eNeg, eConv, eExt, eLenArr, eLen, eLenStr, eEqb, eEqv, allEq, eNil, negIf, eBool2, eCmp, eAri, ari, eBit, eDiv, eSh, eMinMax, foldMin, foldMax, kEq, pure1, cmpB, VO.quiet, resVals, resVal, tupled, popRet, popTo, cond, Option.bind, Option.map, eNew, eBox, asCells, lenH, snocH, eFieldAddr, eField, eLoad, cellsAt, getH, setH, dropL, takeL, mkAgg, lenL, lenS, shift, shiftL, shiftH, viewN, viewL, view, andT, junks, List.append_nil, Nat.beq, eIdxAddr, eIdxArr, idxN_0, idxN_1, idxN_2, idxN_3, eIndex, eStore, storeAt, spliceL, ones, one, eSlice, eSliceArr, bounds, subLo_z, addLo_z, subLo_one, addLo_one, eMake, eAppend, readS, repL, buildCells, chunk, purgeL, purgeLL, purgeH, purge, refs, refsL, List.cons_append, List.nil_append, wrOps, wrAl, wrDops, wrC, junkAt, putAll, putHs, headOf, headK, keepG, List.append_eq, headX, VO.isAppend, chkG, chkA, napP, napB, there, wrDtr, chkP, apartP, apartB, blk, strip, runAl, AL.ho, yld, putPs, lenN, findR, notRound, jumpK, jumpPT, jcode, List.map_cons, List.map_nil, ite_self, reduceIte]
        simp only [leS_mk, leL_cons, leL_nil, le_junk, le_int, le_bool, le_nil, leLL_nil, leLL_cons, leH_cons, leH_nil, leH1_box, leH1_own, leH1_gone, le_vs, le_agg, le_tup, le_ptr, le_own, le_xp, le_fn, le_opt, le_val, le_elem, le_nil_own, le_nil_vs, leH_ghost, leL_chunk, leXL_id, bnd_int, bnd_bool, bnd_val, bnd_nil, bnd_junk, bnd_vs, bnd_xp, bnd_agg, bnd_tup, bnd_ptr, bnd_own, bnd_elem, bnd_fn, bnd_iface, bnd_opt, bndL_nil, bndL_cons, lenH_cons, lenH_nil, imp_self, implies_true, true_and, and_true]
        rw [IntWalk.i64_in _ (by omega)]
        simp [leL, le, nl_0, dig_zero]
    · rintro ⟨j, q, r, z⟩ ⟨hj, hq, hqm, hr⟩
      dsimp only at hj hq hqm hr
      dsimp only [R3_ct99, R3_ct71, R3_ct115, R3_ct110, R3_ct114, trimC, orderC, minusC, bitC, doubleC, natS, bitI, Int.toNat_natCast, r_end, r_end1, r_nil, r_op, r_opg, r_runOp, r_op0, r_yld0, r_yld1, r_y, r_rbeg, r_rend, r_rend1, r_rfrm, r_rfrm1, r_range, r_rangeK, r_rangeE, r_draw, r_drawT, r_tleaf, r_tops, r_tbr, s_chkF, s_chkT, r_dnil, r_dop, r_dopg, r_dplq, r_dplh, r_dq, r_dq0, r_dcl1, r_dcl0, r_dct1, r_dct0, r_dgd, r_dgq1, r_dgq0, r_dctG, r_op1, r_eff, r_eff0, r_call, r_call0, r_inl, r_g, r_gq, r_gc, r_effg, r_effg0, r_callg, r_callg0, r_fin, r_pre, r_imp, r_all, r_ex, r_fing, r_preg, r_exg, r_inBlock, r_inLoop, r_frame, r_frame1, r_skip, r_stuck, r_region, r_seq, r_cond, r_cond1, r_block, r_exit, r_exit1, r_exit2, r_ret, r_loop, s_args0, s_args1, s_xt, s_xc, u0, u1, u2, w0, w1, noOwn, noOwnL, padL, blankL, callee, calleeM, callArgs, eff, ctOf, ctM, ctI, getL, setL, S.put, S.upd, unopts, unopt, unoptsO, unoptsB, lazyO, guardOf, gbool, eMov, eNot, eNeg, eConv, eExt, eLenArr, eLen, eLenStr, eEqb, eEqv, allEq, eNil, negIf, eBool2, eCmp, eAri, ari, eBit, eDiv, eSh, eMinMax, foldMin, foldMax, kEq, pure1, cmpB, VO.quiet, resVals, resVal, tupled, popRet, popTo, cond, Option.bind, Option.map, eNew, eBox, asCells, lenH, snocH, eFieldAddr, eField, eLoad, cellsAt, getH, setH, dropL, takeL, mkAgg, lenL, lenS, shift, shiftL, shiftH, viewN, viewL, view, andT, junks, List.append_nil, Nat.beq, eIdxAddr, eIdxArr, idxN_0, idxN_1, idxN_2, idxN_3, eIndex, eStore, storeAt, spliceL, ones, one, eSlice, eSliceArr, bounds, subLo_z, addLo_z, subLo_one, addLo_one, eMake, eAppend, readS, repL, buildCells, chunk, purgeL, purgeLL, purgeH, purge, refs, refsL, List.cons_append, List.nil_append, wrOps, wrAl, wrDops, wrC, junkAt, putAll, putHs, headOf, headK, keepG, List.append_eq, headX, VO.isAppend, chkG, chkA, napP, napB, there, wrDtr, chkP, apartP, apartB, blk, strip, runAl, AL.ho, yld, putPs, lenN, findR, notRound, jumpK, jumpPT, jcode, List.map_cons, List.map_nil, ite_self, reduceIte]
      simp only [true_and, and_true, imp_self, implies_true, decide_eq_true_eq, decide_eq_false_iff_not, Nat.reduceAdd, Nat.reduceLeDiff, Bool.not_not, reduceCtorEq, false_imp_iff, Bool.not_eq_true', Bool.not_eq_false', Bool.false_eq_true, and_self, forall_const, ne_eq, not_false_eq_true, Nat.reduceEqDiff]
      refine ⟨fun hlt => ?_, fun hge => ?_⟩
      · obtain ⟨i, rfl⟩ : ∃ i, j = i + 1 := ⟨j - 1, by omega⟩
        have e0 : ((i + 1 : Nat) : Int) - 1 = i := by omega
        have e1 : IntKind.i64.wrap ((i : Int).tdiv 32) = ((i / 32 : Nat) : Int) := by
          have : (i : Int).tdiv 32 = ((i / 32 : Nat) : Int) := IntWalk.up_tdiv (y := 32) rfl rfl
          rw [this, IntWalk.i64_in _ (by omega)]
        have e2 : (i : Int).tmod 32 = ((i % 32 : Nat) : Int) := IntWalk.up_tmod (y := 32) rfl rfl
        rw [e0, e1, e2]
        simp only [Int.toNat_natCast]
        have hbit := bitN_lt a i
        have hrn : nl r ≤ 9999 := Nat.le_trans (nl_mono (Nat.le_of_lt hr)) (Nat.le_trans (nl_le.2 hb) hm9)
        have hr2' : ∀ K, nl r ≤ K → nl (2 * r + bitN a i) ≤ K + 1 := fun K hK => by
          have h1 := nl_le.1 hK
          rw [nl_le, pw_succ]
          omega
        have hr2 : nl (2 * r + bitN a i) ≤ 10000 := hr2' 9999 hrn
        refine ⟨a, ⟨padP_self hn ha, by omega, by omega⟩, r, ⟨padP_nl (by omega), by omega, by omega, by omega⟩, 2 * r + bitN a i, b, ⟨padP_nl (by omega), padP_self hm hb⟩, fun hc => ?_, fun hc => ?_⟩
        · have hbr : b ≤ 2 * r + bitN a i := by
            unfold ordN at hc
            split at hc
            · omega
            · omega
          obtain ⟨s1, s2, s3⟩ := setbit hqm
          obtain ⟨d1, d2⟩ := div_step1 hq hqm hbr
          have hi32 : i / 32 < nl a := by omega
          have hm32 : i % 32 < 32 := Nat.mod_lt _ (by decide)
          refine ⟨_, _, ⟨padP_nl (by omega), padP_self hm hb, hbr⟩, by decide, by decide, ⟨by omega, by omega⟩, hi32, by decide, by omega, ⟨by omega, by omega⟩, hi32, (i, q + 2 ^ i, 2 * r + bitN a i - b, false), ⟨by simp only; omega, d1, d2, by simp only; omega⟩, by simp only; omega, ?_⟩
          have w : IntKind.u32.wrap (1 * 2 ^ min (i % 32) IntKind.u32.bits) = ((2 ^ (i % 32) : Nat) : Int) := by
            have e4 : min (i % 32) IntKind.u32.bits = i % 32 := by show min (i % 32) 32 = _; omega
            have e5 : (1 : Int) * 2 ^ (i % 32) = ((2 ^ (i % 32) : Nat) : Int) := by simp
            rw [e4, e5]
            exact u3_nat (Nat.pow_lt_pow_right (by decide) hm32)
          rw [w, show IntKind.u32.bits = 32 from rfl, or_nat (dig_lt _ _) (Nat.pow_lt_pow_right (by decide) hm32), or_add s1, IntWalk.i64_in ((i : Int) - 1) (by omega)]
          simp only [leS_mk, leL_cons, leL_nil, le_junk, le_int, le_bool, le_nil, leLL_nil, leLL_cons, leH_cons, leH_nil, leH1_box, leH1_own, leH1_gone, le_vs, le_agg, le_tup, le_ptr, le_own, le_xp, le_fn, le_opt, le_val, le_elem, le_nil_own, le_nil_vs, leH_ghost, leL_chunk, leXL_id, bnd_int, bnd_bool, bnd_val, bnd_nil, bnd_junk, bnd_vs, bnd_xp, bnd_agg, bnd_tup, bnd_ptr, bnd_own, bnd_elem, bnd_fn, bnd_iface, bnd_opt, bndL_nil, bndL_cons, lenH_cons, lenH_nil, imp_self, implies_true, true_and, and_true]
          refine ⟨by decide, fun k hk => ?_⟩
          rw [← s2, dig_setD s3]
          split <;> simp only [leL, le, and_self]
        · have hbr : 2 * r + bitN a i < b := by
            unfold ordN at hc
            split at hc
            · omega
            · split at hc <;> omega
          refine ⟨(i, q, 2 * r + bitN a i, false), ⟨by simp only; omega, div_step0 hq hqm, (mod_half hqm).1, hbr⟩, by simp only; omega, ?_⟩
          rw [IntWalk.i64_in ((i : Int) - 1) (by omega)]
          simp only [leS_mk, leL_cons, leL_nil, le_junk, le_int, le_bool, le_nil, leLL_nil, leLL_cons, leH_cons, leH_nil, leH1_box, leH1_own, leH1_gone, le_vs, le_agg, le_tup, le_ptr, le_own, le_xp, le_fn, le_opt, le_val, le_elem, le_nil_own, le_nil_vs, leH_ghost, leL_chunk, leXL_id, bnd_int, bnd_bool, bnd_val, bnd_nil, bnd_junk, bnd_vs, bnd_xp, bnd_agg, bnd_tup, bnd_ptr, bnd_own, bnd_elem, bnd_fn, bnd_iface, bnd_opt, bndL_nil, bndL_cons, lenH_cons, lenH_nil, imp_self, implies_true, true_and, and_true]
          decide
      · obtain rfl : j = 0 := by omega
        obtain ⟨rfl, rfl⟩ := div_end hq hr
        refine ⟨a / b, padP_self hn (Nat.lt_of_le_of_lt (Nat.div_le_self _ _) ha), ?_⟩
        exact ans_le (show k _ [] from h z) (le_self _ ⟨trivial, trivial, trivial⟩) (fun _ => by simp [natS, freshS, freshL])
  · exact h.1.elim
end Go.Proofs.YtngccjllkgpjmaaGreat

/- Fractions, walked: Valid, Proper, badq, lowest. -/
/- Fractions, walked: Valid, Proper, badq, lowest. -/
set_option linter.all false
namespace Go.Proofs.YtngccjllkgpjmaaGreat
open Go Go.Vx
set_option maxRecDepth 100000
set_option maxHeartbeats 4000000

def v109 : VF := { ntmps := 20, res := [.tmp 2], body :=
 (.seq (.region [u1 2 .mov [.cn (.bool false)]])
 (.seq (.region [u1 3 .mov [.tm 0],
 u1 4 .len [.tm 3],
 u1 5 (.cmp .leq) [.tm 4, .cn (.int .i64 512)],
 u1 6 .mov [.tm 5],
 u2 7 6 true .mov [.tm 0],
 u2 8 6 true .len [.tm 7],
 u2 9 6 true (.cmp .eql) [.tm 8, .cn (.int .i64 0)],
 u2 10 6 true .mov [.tm 9],
 u2 11 10 false .mov [.tm 0],
 u2 12 10 false .mov [.tm 0],
 u2 13 10 false .len [.tm 12],
 u2 14 10 false (.ari .sub) [.tm 13, .cn (.int .i64 1)],
 u2 15 10 false (.idxAddr 1) [.tm 11, .tm 14],
 u2 16 10 false (.load false 1) [.tm 15],
 u2 17 10 false (.cmp .neq) [.tm 16, .cn (.int .u32 0)],
 u2 18 6 true .or [.tm 10, .tm 17],
 u1 19 .and [.tm 6, .tm 18],
 u1 2 .mov [.tm 19]])
 .ret)) }
theorem v109_is : vfunc Tryz.prog Tryz.f109 = some v109 := by kernel_rfl
def v106 : VF := { ntmps := 19, res := [.tmp 4], body :=
 (.seq (.region [u1 4 .mov [.cn .nil]])
 (.seq (.block 0 (.loop (.seq (.seq (.region [u1 7 .mov [.tm 1],
 u1 8 .len [.tm 7],
 u1 9 (.cmp .gtr) [.tm 8, .cn (.int .i64 0)]])
 (.cond (.tm 9) .skip
  (.exit 0)))
 (.block 1 (.seq (.region [u1 11 .mov [.tm 0],
 u1 12 .mov [.tm 1],
 u1 13 (.call 107) [.tm 11, .tm 12],
 u1 10 .mov [.tm 13],
 u1 14 (.ext 0) [.tm 10],
 u1 15 (.ext 1) [.tm 10],
 u1 5 .mov [.tm 14],
 u1 6 .mov [.tm 15]])
 (.region [u1 16 .mov [.tm 1],
 u1 17 .mov [.tm 6],
 u1 0 .mov [.tm 16],
 u1 1 .mov [.tm 17]]))))))
 (.seq (.region [u1 18 .mov [.tm 0],
 u1 4 .mov [.tm 18]])
 .ret))) }
theorem v106_is : vfunc Tryz.prog Tryz.f106 = some v106 := by kernel_rfl
def v105 : VF := { ntmps := 44, res := [.tmp 2], body :=
 (.seq (.region [u1 1 .box [.tm 0],
 u1 2 .mov [.cn (.bool false)]])
 (.seq (.seq (.draw [] [w1 3 (.fieldAddr 1) [.tm 1],
 w1 4 (.load false 1) [.tm 3],
 w1 5 (.call 109) [.tm 4],
 w1 6 .not [.tm 5],
 w1 7 .mov [.tm 6],
 ⟨u2 8 7 false (.fieldAddr 2) [.tm 1], []⟩,
 ⟨u2 9 7 false (.load false 1) [.tm 8], []⟩,
 ⟨u2 10 7 false (.call 109) [.tm 9], []⟩,
 ⟨u2 11 7 false .not [.tm 10], []⟩,
 w1 12 .or [.tm 7, .tm 11],
 w1 13 .mov [.tm 12],
 ⟨u2 14 13 false (.fieldAddr 2) [.tm 1], []⟩,
 ⟨u2 15 13 false (.load false 1) [.tm 14], []⟩,
 ⟨u2 16 13 false .len [.tm 15], []⟩,
 ⟨u2 17 13 false (.cmp .eql) [.tm 16, .cn (.int .i64 0)], []⟩,
 w1 18 .or [.tm 13, .tm 17],
 w1 19 .mov [.tm 18],
 ⟨u2 20 19 false (.fieldAddr 1) [.tm 1], []⟩,
 ⟨u2 21 19 false (.load false 1) [.tm 20], []⟩,
 ⟨u2 22 19 false .len [.tm 21], []⟩,
 ⟨u2 23 19 false (.cmp .eql) [.tm 22, .cn (.int .i64 0)], []⟩,
 ⟨u2 24 19 false .mov [.tm 23], []⟩,
 ⟨u2 25 24 true (.fieldAddr 0) [.tm 1], []⟩,
 ⟨u2 26 24 true (.load false 1) [.tm 25], []⟩,
 ⟨u2 27 24 true .mov [.tm 26], []⟩,
 ⟨u2 28 27 false (.fieldAddr 2) [.tm 1], []⟩,
 ⟨u2 29 27 false (.load false 1) [.tm 28], []⟩,
 ⟨u2 30 27 false (.call 68) [.cn (.int .u64 1)], []⟩,
 ⟨u2 31 27 false (.call 71) [.tm 29, .tm 30], []⟩,
 ⟨u2 32 27 false (.cmp .neq) [.tm 31, .cn (.int .i64 0)], []⟩,
 ⟨u2 33 24 true .or [.tm 27, .tm 32], []⟩,
 ⟨u2 34 19 false .and [.tm 24, .tm 33], []⟩,
 w1 35 .or [.tm 19, .tm 34]])
 (.cond (.tm 35) (.seq (.region [u1 2 .mov [.cn (.bool false)]])
 .ret)
  .skip))
 (.seq (.region [u1 36 (.fieldAddr 1) [.tm 1],
 u1 37 (.load false 1) [.tm 36],
 u1 38 (.fieldAddr 2) [.tm 1],
 u1 39 (.load false 1) [.tm 38],
 u1 40 (.call 106) [.tm 37, .tm 39],
 u1 41 (.call 68) [.cn (.int .u64 1)],
 u1 42 (.call 71) [.tm 40, .tm 41],
 u1 43 (.cmp .eql) [.tm 42, .cn (.int .i64 0)],
 u1 2 .mov [.tm 43]])
 .ret))) }
theorem v105_is : vfunc Tryz.prog Tryz.f105 = some v105 := by kernel_rfl
def v88 : VF := { ntmps := 39, res := [.tmp 2], body :=
 (.seq (.region [u1 2 .mov [.cn (.int .i64 0)]])
 (.seq (.seq (.region [u1 3 .mov [.cn (.int .i64 0)]])
 (.block 0 (.loop (.seq (.seq (.region [u1 5 .mov [.tm 3],
 u1 6 .mov [.tm 0],
 u1 7 .len [.tm 6],
 u1 8 (.cmp .lss) [.tm 5, .tm 7]])
 (.cond (.tm 8) .skip
  (.exit 0)))
 (.seq (.block 1 (.seq (.region [u1 11 .mov [.tm 0],
 u1 12 .mov [.tm 3],
 u1 13 (.idxAddr 3) [.tm 11, .tm 12],
 u1 14 (.fieldAddr 1) [.tm 13],
 u1 15 (.load false 1) [.tm 14],
 u1 16 .len [.tm 15],
 u1 17 (.cmp .gtr) [.tm 16, .cn (.int .i64 512)],
 u1 18 .mov [.tm 17],
 u2 19 18 false .mov [.tm 0],
 u2 20 18 false .mov [.tm 3],
 u2 21 18 false (.idxAddr 3) [.tm 19, .tm 20],
 u2 22 18 false (.fieldAddr 2) [.tm 21],
 u2 23 18 false (.load false 1) [.tm 22],
 u2 24 18 false .len [.tm 23],
 u2 25 18 false (.cmp .gtr) [.tm 24, .cn (.int .i64 512)],
 u1 26 .or [.tm 18, .tm 25]])
 (.cond (.tm 26) (.seq (.region [u1 2 .mov [.cn (.int .i64 3)]])
 .ret)
  .skip)))
 (.region [u1 9 .mov [.tm 3],
 u1 10 (.ari .add) [.tm 9, .cn (.int .i64 1)],
 u1 3 .mov [.tm 10]]))))))
 (.seq (.seq (.region [u1 4 .mov [.cn (.int .i64 0)]])
 (.block 2 (.loop (.seq (.seq (.region [u1 27 .mov [.tm 4],
 u1 28 .mov [.tm 0],
 u1 29 .len [.tm 28],
 u1 30 (.cmp .lss) [.tm 27, .tm 29]])
 (.cond (.tm 30) .skip
  (.exit 2)))
 (.seq (.block 3 (.seq (.region [u1 33 .mov [.tm 0],
 u1 34 .mov [.tm 4],
 u1 35 (.idxAddr 3) [.tm 33, .tm 34],
 u1 36 (.load true 3) [.tm 35],
 u1 37 (.call 105) [.tm 36],
 u1 38 .not [.tm 37]])
 (.cond (.tm 38) (.seq (.region [u1 2 .mov [.cn (.int .i64 2)]])
 .ret)
  .skip)))
 (.region [u1 31 .mov [.tm 4],
 u1 32 (.ari .add) [.tm 31, .cn (.int .i64 1)],
 u1 4 .mov [.tm 32]]))))))
 (.seq (.region [u1 2 .mov [.cn (.int .i64 0)]])
 .ret)))) }
theorem v88_is : vfunc Tryz.prog Tryz.f88 = some v88 := by kernel_rfl
def v89 : VF := { ntmps := 46, res := [.cell 6 true 3, .tmp 7], body :=
 (.seq (.region [u1 6 (.alloc [(.bool false), .nil, .nil]) [],
 u1 7 .mov [.cn (.int .i64 0)]])
 (.seq (.region [u1 13 .mov [.tm 1],
 u1 14 .mov [.tm 2],
 u1 15 (.call 106) [.tm 13, .tm 14],
 u1 8 .mov [.tm 15]])
 (.seq (.region [u1 17 .mov [.tm 1],
 u1 18 .mov [.tm 8],
 u1 19 (.call 107) [.tm 17, .tm 18],
 u1 16 .mov [.tm 19],
 u1 20 (.ext 0) [.tm 16],
 u1 21 (.ext 1) [.tm 16],
 u1 9 .mov [.tm 20],
 u1 10 .mov [.tm 21]])
 (.seq (.region [u1 23 .mov [.tm 2],
 u1 24 .mov [.tm 8],
 u1 25 (.call 107) [.tm 23, .tm 24],
 u1 22 .mov [.tm 25],
 u1 26 (.ext 0) [.tm 22],
 u1 27 (.ext 1) [.tm 22],
 u1 11 .mov [.tm 26],
 u1 12 .mov [.tm 27]])
 (.seq (.seq (.region [u1 28 .mov [.tm 9],
 u1 29 .len [.tm 28],
 u1 30 (.cmp .gtr) [.tm 29, .cn (.int .i64 512)],
 u1 31 .mov [.tm 30],
 u2 32 31 false .mov [.tm 11],
 u2 33 31 false .len [.tm 32],
 u2 34 31 false (.cmp .gtr) [.tm 33, .cn (.int .i64 512)],
 u1 35 .or [.tm 31, .tm 34]])
 (.cond (.tm 35) (.seq (.region [u1 36 (.build [(.bool false), .nil, .nil] []) [],
 u0 (.store 3) [.tm 6, .tm 36],
 u1 7 .mov [.cn (.int .i64 3)]])
 .ret)
  .skip))
 (.seq (.region [u1 37 .mov [.tm 0],
 u1 38 .mov [.tm 37],
 u2 39 38 true .mov [.tm 9],
 u2 40 38 true .len [.tm 39],
 u2 41 38 true (.cmp .gtr) [.tm 40, .cn (.int .i64 0)],
 u1 42 .and [.tm 38, .tm 41],
 u1 43 .mov [.tm 9],
 u1 44 .mov [.tm 11],
 u1 45 (.build [(.bool false), .nil, .nil] [(0, 1), (1, 1), (2, 1)]) [.tm 42, .tm 43, .tm 44],
 u0 (.store 3) [.tm 6, .tm 45],
 u1 7 .mov [.cn (.int .i64 0)]])
 .ret)))))) }
theorem v89_is : vfunc Tryz.prog Tryz.f89 = some v89 := by kernel_rfl


abbrev Fr := Int × Nat
/-- A number's slice. -/
def natV (t z : Bool) (a : Nat) : SV := .vs t z (nl a) 1 (fun k => [.int .u32 (dig a k)])
def encF (t : Bool) (p : Fr) : List SV := [.bool (decide (p.1 < 0)), natV t false (rnum p.1 p.2), natV t false (rden p.1 p.2)]
/-- A fraction whose terms are not too long. -/
def frOk (p : Fr) : Prop := 0 < p.2 ∧ nl (rnum p.1 p.2) ≤ 512 ∧ nl (rden p.1 p.2) ≤ 512
/-- A fraction came in. -/
def fracP (p : Fr) (neg z1 : Bool) (n1 s1 : Nat) (g1 : Nat → List SV) (z2 : Bool) (n2 s2 : Nat) (g2 : Nat → List SV) : Prop :=
  frOk p ∧ neg = decide (p.1 < 0) ∧ z1 = false ∧ z2 = false ∧ s1 = 1 ∧ s2 = 1 ∧ n1 = nl (rnum p.1 p.2) ∧ n2 = nl (rden p.1 p.2) ∧
    (∀ k, k < n1 → leXL (g1 k) [.int .u32 (dig (rnum p.1 p.2) k)]) ∧ ∀ k, k < n2 → leXL (g2 k) [.int .u32 (dig (rden p.1 p.2) k)]
theorem fracP_self {p : Fr} (h : frOk p) : fracP p (decide (p.1 < 0)) false (nl (rnum p.1 p.2)) 1 (fun k => [.int .u32 (dig (rnum p.1 p.2) k)]) false (nl (rden p.1 p.2)) 1 (fun k => [.int .u32 (dig (rden p.1 p.2) k)]) :=
  ⟨h, rfl, rfl, rfl, rfl, rfl, rfl, rfl, fun k _ => leXL_self _, fun k _ => leXL_self _⟩

def validC : Ctr := { alias := false, of := fun l => match l with
  | [.vs _ _ n sz get] => .ex Nat fun a => .pre (padP a n sz get) (.fin (.bool (decide (n ≤ 512) && decide (n = nl a))) [])
  | _ => noC }
def properC : Ctr := { alias := false, of := fun l => match l with
  | [.agg [.bool neg, .vs _ z1 n1 s1 g1, .vs _ z2 n2 s2 g2]] => .ex Fr fun p => .pre (fracP p neg z1 n1 s1 g1 z2 n2 s2 g2) (.fin (.bool true) [])
  | _ => noC }
def badqC : Ctr := { alias := false, of := fun l => match l with
  | [.vs _ _ n sz get] => .ex (List Fr) fun l => .pre (lsP 3 (encF false) n sz get l ∧ l.length ≤ 1000 ∧ ∀ p ∈ l, frOk p) (.fin (.int .i64 0) [])
  | _ => noC }
def lowestC : Ctr := { alias := false, of := fun l => match l with
  | [.bool neg, .vs _ _ n sz get, .vs _ _ m sz' get'] => .ex Nat fun a => .ex Nat fun b => .pre (padP a n sz get ∧ n = nl a ∧ padP b m sz' get' ∧ m = nl b ∧ 0 < b ∧ n ≤ 9999 ∧ m ≤ 9999 ∧ frOk (nsg neg a, b)) (.fin (.tup [.agg (encF true (nsg neg a, b)), .int .i64 0]) [])
  | _ => noC }

theorem valid_ok : validC.ok Tryz.prog 109 := by
  refine contract Tryz.func109 v109_is R1_ok 200 validC fun args k h => ?_
  simp only [validC] at h
  split at h
  · rename_i t1 z1 n sz get
    obtain ⟨a, ⟨rfl, hn, ha, hg⟩, h⟩ := h
    refine ⟨[.vs t1 z1 n 1 (fun k => [.int .u32 (dig a k)])], by simpa [leL, le] using hg, ?_⟩
    (try dsimp only [v109, go_sem, Option.bind, Option.map, List.append_nil, Nat.beq, List.cons_append, List.nil_append, List.append_eq, List.map_cons, List.map_nil, ite_self, reduceIte])
    (try simp only [true_and, and_true, imp_self, implies_true, decide_eq_true_eq, decide_eq_false_iff_not, Nat.reduceAdd, Nat.reduceLeDiff, Bool.not_not, reduceCtorEq, false_imp_iff, Bool.not_eq_true', Bool.not_eq_false', Bool.false_eq_true, and_self, forall_const, ne_eq, not_false_eq_true, Nat.reduceEqDiff])
    have e : (decide ((n : Int) = 0) || !decide (((dig a (IntKind.i64.wrap ((n : Int) - 1)).toNat : Nat) : Int) = 0)) = decide (n = nl a) := by
      rcases Nat.eq_zero_or_pos n with h0 | h0
      · subst h0
        have := padP_0 (a := a) (sz := 1) (get := get) ⟨rfl, hn, ha, hg⟩
        subst this
        simp [nl_0]
      · rw [w_pred h0 (by omega), Int.toNat_natCast, decide_eq_false (by omega : ¬ (n : Int) = 0), Bool.false_or, Bool.eq_iff_iff, Bool.not_eq_true', decide_eq_false_iff_not, decide_eq_true_eq]
        constructor
        · intro hne
          exact (nl_trim ha (.inr (by omega))).symm
        · rintro rfl
          have := nl_top (a := a) (by rintro rfl; simp [nl_0] at h0)
          omega
    refine ⟨fun hb => ?_, fun h1 h2 => by rw [decide_eq_true h1, decide_eq_false h2]; rfl, ?_⟩
    · simp only [Bool.and_eq_true, decide_eq_true_eq, Bool.not_eq_true', decide_eq_false_iff_not] at hb
      rw [w_pred (by omega) (by omega)]; omega
    · rw [e]
      have e2 : decide ((n : Int) ≤ 512) = decide (n ≤ 512) := by congr 1; exact propext (by omega)
      rw [e2]
      exact ans_bool h
  · exact h.1.elim

def R4 : Env := { ct := fun n => match n with | 109 => some validC | 71 => some orderC | 68 => some ofC | 107 => some divideC | _ => none, fn := fun n => match n with | 106 => some v106 | _ => none, meth := fun _ _ => none }
theorem R4_ct109 : R4.ct 109 = some validC := rfl
theorem R4_ct71 : R4.ct 71 = some orderC := rfl
theorem R4_ct68 : R4.ct 68 = some ofC := rfl
theorem R4_ct107 : R4.ct 107 = some divideC := rfl
theorem R4_ct106 : R4.ct 106 = none := rfl
theorem R4_fn106 : R4.fn 106 = some v106 := rfl
theorem R4_ok : EnvOk Tryz.prog R4 := by
  refine ⟨fun f c h => ?_, fun f vf h => ?_, (fun _ _ _ h => by cases h), by kernel_rfl⟩
  · simp only [R4] at h
    split at h
    · cases h; exact ⟨valid_ok, Tryz.f109, Tryz.func109, by kernel_rfl, by kernel_rfl⟩
    · cases h; exact ⟨order_ok, Tryz.f71, Tryz.func71, by kernel_rfl, by kernel_rfl⟩
    · cases h; exact ⟨of_ok, Tryz.f68, Tryz.func68, by kernel_rfl, by kernel_rfl⟩
    · cases h; exact ⟨divide_ok, Tryz.f107, Tryz.func107, by kernel_rfl, by kernel_rfl⟩
    · cases h
  · simp only [R4] at h
    split at h
    · cases h; exact ⟨Tryz.f106, Tryz.func106, v106_is, Tryz.f106, Tryz.func106, by kernel_rfl, by kernel_rfl⟩
    · cases h


theorem proper_ok : properC.ok Tryz.prog 105 := by
  refine contract Tryz.func105 v105_is R4_ok 300 properC fun args k h => ?_
  simp only [properC] at h
  split at h
  · rename_i neg t1 z1 n1 s1 g1 t2 z2 n2 s2 g2
    obtain ⟨⟨n, d⟩, ⟨⟨hd, hl1, hl2⟩, rfl, rfl, rfl, rfl, rfl, rfl, rfl, hg1, hg2⟩, h⟩ := h
    dsimp only at hd hl1 hl2 hg1 hg2
    refine ⟨[.agg [.bool (decide (n < 0)), .vs false false (nl (rnum n d)) 1 (fun k => [.int .u32 (dig (rnum n d) k)]), .vs false false (nl (rden n d)) 1 (fun k => [.int .u32 (dig (rden n d) k)])]], by simpa [leL, le] using ⟨hg1, hg2⟩, ?_⟩
    (try dsimp only [v105, R4_ct109, R4_ct71, R4_ct68, R4_ct106, R4_fn106, v106, validC, orderC, ofC, natS, go_sem, Option.bind, Option.map, List.append_nil, Nat.beq, List.cons_append, List.nil_append, List.append_eq, List.map_cons, List.map_nil, ite_self, reduceIte])
    (try simp only [true_and, and_true, imp_self, implies_true, decide_eq_true_eq, decide_eq_false_iff_not, Nat.reduceAdd, Nat.reduceLeDiff, Bool.not_not, reduceCtorEq, false_imp_iff, Bool.not_eq_true', Bool.not_eq_false', Bool.false_eq_true, and_self, forall_const, ne_eq, not_false_eq_true, Nat.reduceEqDiff])
    have hq := rden_pos (n := n) hd
    have hq0 := nl_pos.2 hq
    have c1 : decide (nl (rnum n d) ≤ 512) = true := decide_eq_true hl1
    have c2 : decide (nl (rden n d) ≤ 512) = true := decide_eq_true hl2
    have c3 : decide ((nl (rden n d) : Int) = 0) = false := decide_eq_false (by omega)
    refine ⟨rnum n d, padP_nl (by omega), rden n d, fun _ => padP_nl (by omega), fun _ => by decide, rden n d, 1, fun _ => ⟨padP_nl (by omega), padP_nl (by decide)⟩, ?_⟩
    have c4 : (decide ((nl (rnum n d) : Int) = 0) && (decide (n < 0) || !decide (ordN (rden n d) 1 = 0))) = false := by
      by_cases h0 : n = 0
      · subst h0
        rw [rden_0 hd]; simp [ordN]
      · have : nl (rnum n d) ≠ 0 := fun hh => h0 ((rnum_0 hd).1 (nl_eq0.1 hh))
        rw [decide_eq_false (by omega), Bool.false_and]
    simp only [c1, c2, c3, decide_true, decide_false, Bool.and_true, Bool.true_and, Bool.and_false, Bool.false_and, Bool.not_true, Bool.not_false, Bool.or_false, Bool.false_or, Bool.or_true, Bool.true_or, Bool.and_self, Bool.or_self, Bool.false_eq_true, Bool.true_eq_false, false_imp_iff, forall_const, true_and, and_true, implies_true, reduceCtorEq, not_true_eq_false, not_false_eq_true, ite_true, ite_false]
    rw [c4]
    refine ⟨fun h1 h2 => by rw [h1, decide_eq_false h2]; rfl, fun h => by rw [decide_eq_true h], (fun h => by cases h), fun _ => ?_⟩
    refine Loop.keep [] (Nat × Nat × Bool × Bool) (fun x => [(0, .vs false x.2.2.1 (nl x.1) 1 (fun k => [.int .u32 (dig x.1 k)])), (1, .vs false x.2.2.2 (nl x.2.1) 1 (fun k => [.int .u32 (dig x.2.1 k)]))]) (fun _ => []) [] (fun x => Nat.gcd x.1 x.2.1 = Nat.gcd (rnum n d) (rden n d) ∧ nl x.1 ≤ 9999 ∧ nl x.2.1 ≤ 9999) (fun x => x.2.1) ?_ ?_
    · refine ⟨(rnum n d, rden n d, false, false), ⟨rfl, by simp only; omega, by simp only; omega⟩, ?_⟩
      (try dsimp only [go_sem, Option.bind, Option.map, List.append_nil, Nat.beq, List.cons_append, List.nil_append, List.append_eq, List.map_cons, List.map_nil, ite_self, reduceIte])
      simp only [leS_mk, leL_cons, leL_nil, le_junk, le_int, le_bool, le_nil, leLL_nil, leLL_cons, leH_cons, leH_nil, leH1_box, leH1_own, leH1_gone, le_vs, le_agg, le_tup, le_ptr, le_own, le_xp, le_fn, le_opt, le_val, le_elem, le_nil_own, le_nil_vs, leH_ghost, leL_chunk, leXL_id, bnd_int, bnd_bool, bnd_val, bnd_nil, bnd_junk, bnd_vs, bnd_xp, bnd_agg, bnd_tup, bnd_ptr, bnd_own, bnd_elem, bnd_fn, bnd_iface, bnd_opt, bndL_nil, bndL_cons, lenH_cons, lenH_nil, imp_self, implies_true, true_and, and_true]
      simp
    · rintro ⟨x, y, zx, zy⟩ ⟨hg, hx, hy⟩
      dsimp only at hg hx hy
      (try dsimp only [R4_ct107, R4_ct71, R4_ct68, divideC, orderC, ofC, natS, go_sem, Option.bind, Option.map, List.append_nil, Nat.beq, List.cons_append, List.nil_append, List.append_eq, List.map_cons, List.map_nil, ite_self, reduceIte])
      (try simp only [true_and, and_true, imp_self, implies_true, decide_eq_true_eq, decide_eq_false_iff_not, Nat.reduceAdd, Nat.reduceLeDiff, Bool.not_not, reduceCtorEq, false_imp_iff, Bool.not_eq_true', Bool.not_eq_false', Bool.false_eq_true, and_self, forall_const, ne_eq, not_false_eq_true, Nat.reduceEqDiff])
      refine ⟨fun hpos => ⟨x, y, ⟨padP_nl (by omega), rfl, padP_nl (by omega), nl_pos.1 (by omega), hy, hx⟩, fun zr => ⟨by decide, by decide, (y, x % y, zy, zr), ⟨?_, hy, ?_⟩, ?_, ?_⟩⟩, fun hge => ?_⟩
      · have hy0 : 0 < y := nl_pos.1 (by omega)
        show Nat.gcd y (x % y) = _
        rw [← hg, Nat.gcd_comm x y, Nat.gcd_rec y x, Nat.gcd_comm]
      · exact Nat.le_trans (nl_mono (Nat.mod_le _ _)) hx
      · exact Nat.mod_lt _ (nl_pos.1 (by omega))
      · simp only [leS_mk, leL_cons, leL_nil, le_junk, le_int, le_bool, le_nil, leLL_nil, leLL_cons, leH_cons, leH_nil, leH1_box, leH1_own, leH1_gone, le_vs, le_agg, le_tup, le_ptr, le_own, le_xp, le_fn, le_opt, le_val, le_elem, le_nil_own, le_nil_vs, leH_ghost, leL_chunk, leXL_id, bnd_int, bnd_bool, bnd_val, bnd_nil, bnd_junk, bnd_vs, bnd_xp, bnd_agg, bnd_tup, bnd_ptr, bnd_own, bnd_elem, bnd_fn, bnd_iface, bnd_opt, bndL_nil, bndL_cons, lenH_cons, lenH_nil, imp_self, implies_true, true_and, and_true]
        simp
      · obtain rfl : y = 0 := nl_eq0.1 (by omega)
        rw [Nat.gcd_zero_right, r_coprime hd] at hg
        subst hg
        refine ⟨⟨by decide, by decide⟩, 1, 1, ⟨padP_nl (by decide), padP_nl (by decide)⟩, ans_bool ?_⟩
        exact h
  · exact h.1.elim
def R5 : Env := { ct := fun n => match n with | 109 => some validC | 71 => some orderC | 68 => some ofC | 107 => some divideC | 105 => some properC | _ => none, fn := fun n => match n with | 106 => some v106 | _ => none, meth := fun _ _ => none }
theorem R5_ct107 : R5.ct 107 = some divideC := rfl
theorem R5_ct105 : R5.ct 105 = some properC := rfl
theorem R5_ct106 : R5.ct 106 = none := rfl
theorem R5_fn106 : R5.fn 106 = some v106 := rfl
theorem R5_ok : EnvOk Tryz.prog R5 := by
  refine ⟨fun f c h => ?_, fun f vf h => ?_, (fun _ _ _ h => by cases h), by kernel_rfl⟩
  · simp only [R5] at h
    split at h
    · cases h; exact ⟨valid_ok, Tryz.f109, Tryz.func109, by kernel_rfl, by kernel_rfl⟩
    · cases h; exact ⟨order_ok, Tryz.f71, Tryz.func71, by kernel_rfl, by kernel_rfl⟩
    · cases h; exact ⟨of_ok, Tryz.f68, Tryz.func68, by kernel_rfl, by kernel_rfl⟩
    · cases h; exact ⟨divide_ok, Tryz.f107, Tryz.func107, by kernel_rfl, by kernel_rfl⟩
    · cases h; exact ⟨proper_ok, Tryz.f105, Tryz.func105, by kernel_rfl, by kernel_rfl⟩
    · cases h
  · simp only [R5] at h
    split at h
    · cases h; exact ⟨Tryz.f106, Tryz.func106, v106_is, Tryz.f106, Tryz.func106, by kernel_rfl, by kernel_rfl⟩
    · cases h


theorem badq_ok : badqC.ok Tryz.prog 88 := by
  refine contract Tryz.func88 v88_is R5_ok 300 badqC fun args k h => ?_
  simp only [badqC] at h
  split at h
  · rename_i tt z n sz get
    obtain ⟨l, ⟨⟨rfl, rfl, hg⟩, hmax, hok⟩, h⟩ := h
    refine ⟨[.vs tt z l.length 3 (fun k => encF false (l.getD k default))], by simpa [leL, le] using hg, ?_⟩
    (try dsimp only [v88, go_sem, Option.bind, Option.map, List.append_nil, Nat.beq, List.cons_append, List.nil_append, List.append_eq, List.map_cons, List.map_nil, ite_self, reduceIte])
    (try simp only [true_and, and_true, imp_self, implies_true, decide_eq_true_eq, decide_eq_false_iff_not, Nat.reduceAdd, Nat.reduceLeDiff, Bool.not_not, reduceCtorEq, false_imp_iff, Bool.not_eq_true', Bool.not_eq_false', Bool.false_eq_true, and_self, forall_const, ne_eq, not_false_eq_true, Nat.reduceEqDiff])
    refine Loop.keep [0, 2] Nat (fun i => [(3, .int .i64 i)]) (fun _ => []) [] (fun i => i ≤ l.length) (fun i => l.length - i) ?_ ?_
    · refine ⟨0, by omega, ?_⟩
      (try dsimp only [go_sem, Option.bind, Option.map, List.append_nil, Nat.beq, List.cons_append, List.nil_append, List.append_eq, List.map_cons, List.map_nil, ite_self, reduceIte])
      simp only [leS_mk, leL_cons, leL_nil, le_junk, le_int, le_bool, le_nil, leLL_nil, leLL_cons, leH_cons, leH_nil, leH1_box, leH1_own, leH1_gone, le_vs, le_agg, le_tup, le_ptr, le_own, le_xp, le_fn, le_opt, le_val, le_elem, le_nil_own, le_nil_vs, leH_ghost, leL_chunk, leXL_id, bnd_int, bnd_bool, bnd_val, bnd_nil, bnd_junk, bnd_vs, bnd_xp, bnd_agg, bnd_tup, bnd_ptr, bnd_own, bnd_elem, bnd_fn, bnd_iface, bnd_opt, bndL_nil, bndL_cons, lenH_cons, lenH_nil, imp_self, implies_true, true_and, and_true]
      simp
    · rintro i hi
      (try dsimp only [encF, natV, Int.toNat_natCast, go_sem, Option.bind, Option.map, List.append_nil, Nat.beq, List.cons_append, List.nil_append, List.append_eq, List.map_cons, List.map_nil, ite_self, reduceIte])
      (try simp only [true_and, and_true, imp_self, implies_true, decide_eq_true_eq, decide_eq_false_iff_not, Nat.reduceAdd, Nat.reduceLeDiff, Bool.not_not, reduceCtorEq, false_imp_iff, Bool.not_eq_true', Bool.not_eq_false', Bool.false_eq_true, and_self, forall_const, ne_eq, not_false_eq_true, Nat.reduceEqDiff])
      refine ⟨fun hlt => ?_, fun hge => ?_⟩
      · obtain ⟨hd, hl1, hl2⟩ := hok _ (getD_mem (by omega : i < l.length))
        refine ⟨⟨by omega, by omega⟩, fun _ => ⟨by omega, by omega⟩, fun hb => ?_, fun _ => ⟨i + 1, by omega, by omega, ?_⟩⟩
        · rw [decide_eq_false (by omega), decide_eq_false (by omega)] at hb
          cases hb
        · rw [w_succ (n := l.length) (by omega) (by omega)]
          simp only [leS_mk, leL_cons, leL_nil, le_junk, le_int, le_bool, le_nil, leLL_nil, leLL_cons, leH_cons, leH_nil, leH1_box, leH1_own, leH1_gone, le_vs, le_agg, le_tup, le_ptr, le_own, le_xp, le_fn, le_opt, le_val, le_elem, le_nil_own, le_nil_vs, leH_ghost, leL_chunk, leXL_id, bnd_int, bnd_bool, bnd_val, bnd_nil, bnd_junk, bnd_vs, bnd_xp, bnd_agg, bnd_tup, bnd_ptr, bnd_own, bnd_elem, bnd_fn, bnd_iface, bnd_opt, bndL_nil, bndL_cons, lenH_cons, lenH_nil, imp_self, implies_true, true_and, and_true] <;> simp
      · refine Loop.keep [0, 3] Nat (fun i => [(4, .int .i64 i)]) (fun _ => []) [] (fun i => i ≤ l.length) (fun i => l.length - i) ?_ ?_
        · refine ⟨0, by omega, ?_⟩
          (try dsimp only [go_sem, Option.bind, Option.map, List.append_nil, Nat.beq, List.cons_append, List.nil_append, List.append_eq, List.map_cons, List.map_nil, ite_self, reduceIte])
          simp only [leS_mk, leL_cons, leL_nil, le_junk, le_int, le_bool, le_nil, leLL_nil, leLL_cons, leH_cons, leH_nil, leH1_box, leH1_own, leH1_gone, le_vs, le_agg, le_tup, le_ptr, le_own, le_xp, le_fn, le_opt, le_val, le_elem, le_nil_own, le_nil_vs, leH_ghost, leL_chunk, leXL_id, bnd_int, bnd_bool, bnd_val, bnd_nil, bnd_junk, bnd_vs, bnd_xp, bnd_agg, bnd_tup, bnd_ptr, bnd_own, bnd_elem, bnd_fn, bnd_iface, bnd_opt, bndL_nil, bndL_cons, lenH_cons, lenH_nil, imp_self, implies_true, true_and, and_true] <;> simp
        · rintro i hi
          (try dsimp only [R5_ct105, properC, encF, natV, Int.toNat_natCast, go_sem, Option.bind, Option.map, List.append_nil, Nat.beq, List.cons_append, List.nil_append, List.append_eq, List.map_cons, List.map_nil, ite_self, reduceIte])
          (try simp only [true_and, and_true, imp_self, implies_true, decide_eq_true_eq, decide_eq_false_iff_not, Nat.reduceAdd, Nat.reduceLeDiff, Bool.not_not, reduceCtorEq, false_imp_iff, Bool.not_eq_true', Bool.not_eq_false', Bool.false_eq_true, and_self, forall_const, ne_eq, not_false_eq_true, Nat.reduceEqDiff])
          refine ⟨fun hlt => ?_, fun hge => ans_int h⟩
          refine ⟨⟨by omega, by omega⟩, l.getD i default, fracP_self (hok _ (getD_mem (by omega))), ⟨i + 1, by omega, by omega, ?_⟩⟩
          rw [w_succ (n := l.length) (by omega) (by omega)]
          simp only [leS_mk, leL_cons, leL_nil, le_junk, le_int, le_bool, le_nil, leLL_nil, leLL_cons, leH_cons, leH_nil, leH1_box, leH1_own, leH1_gone, le_vs, le_agg, le_tup, le_ptr, le_own, le_xp, le_fn, le_opt, le_val, le_elem, le_nil_own, le_nil_vs, leH_ghost, leL_chunk, leXL_id, bnd_int, bnd_bool, bnd_val, bnd_nil, bnd_junk, bnd_vs, bnd_xp, bnd_agg, bnd_tup, bnd_ptr, bnd_own, bnd_elem, bnd_fn, bnd_iface, bnd_opt, bndL_nil, bndL_cons, lenH_cons, lenH_nil, imp_self, implies_true, true_and, and_true] <;> simp
  · exact h.1.elim

theorem lowest_ok : lowestC.ok Tryz.prog 89 := by
  refine contract Tryz.func89 v89_is R5_ok 300 lowestC fun args k h => ?_
  simp only [lowestC] at h
  split at h
  · rename_i neg t1 z1 n sz get t2 z2 m sz' get'
    obtain ⟨a, b, ⟨⟨rfl, hn, ha, hg⟩, rfl, ⟨rfl, hm, hb, hg'⟩, rfl, hb0, hn9, hm9, hok⟩, h⟩ := h
    refine ⟨[.bool neg, .vs t1 z1 (nl a) 1 (fun k => [.int .u32 (dig a k)]), .vs t2 z2 (nl b) 1 (fun k => [.int .u32 (dig b k)])], ⟨rfl, by simpa [le] using hg, by simpa [le] using hg', trivial⟩, ?_⟩
    (try dsimp only [v89, R5_ct106, R5_fn106, v106, go_sem, Option.bind, Option.map, List.append_nil, Nat.beq, List.cons_append, List.nil_append, List.append_eq, List.map_cons, List.map_nil, ite_self, reduceIte])
    (try simp only [true_and, and_true, imp_self, implies_true, decide_eq_true_eq, decide_eq_false_iff_not, Nat.reduceAdd, Nat.reduceLeDiff, Bool.not_not, reduceCtorEq, false_imp_iff, Bool.not_eq_true', Bool.not_eq_false', Bool.false_eq_true, and_self, forall_const, ne_eq, not_false_eq_true, Nat.reduceEqDiff])
    refine Loop.keep [] (Nat × Nat × Bool × Bool) (fun x => [(0, .vs false x.2.2.1 (nl x.1) 1 (fun k => [.int .u32 (dig x.1 k)])), (1, .vs false x.2.2.2 (nl x.2.1) 1 (fun k => [.int .u32 (dig x.2.1 k)]))]) (fun _ => []) [] (fun x => Nat.gcd x.1 x.2.1 = Nat.gcd a b ∧ nl x.1 ≤ 9999 ∧ nl x.2.1 ≤ 9999) (fun x => x.2.1) ?_ ?_
    · refine ⟨(a, b, z1, z2), ⟨rfl, hn9, hm9⟩, ?_⟩
      (try dsimp only [go_sem, Option.bind, Option.map, List.append_nil, Nat.beq, List.cons_append, List.nil_append, List.append_eq, List.map_cons, List.map_nil, ite_self, reduceIte])
      simp only [leS_mk, leL_cons, leL_nil, le_junk, le_int, le_bool, le_nil, leLL_nil, leLL_cons, leH_cons, leH_nil, leH1_box, leH1_own, leH1_gone, le_vs, le_agg, le_tup, le_ptr, le_own, le_xp, le_fn, le_opt, le_val, le_elem, le_nil_own, le_nil_vs, leH_ghost, leL_chunk, leXL_id, bnd_int, bnd_bool, bnd_val, bnd_nil, bnd_junk, bnd_vs, bnd_xp, bnd_agg, bnd_tup, bnd_ptr, bnd_own, bnd_elem, bnd_fn, bnd_iface, bnd_opt, bndL_nil, bndL_cons, lenH_cons, lenH_nil, imp_self, implies_true, true_and, and_true]
      simp
    · rintro ⟨x, y, zx, zy⟩ ⟨hg, hx, hy⟩
      dsimp only at hg hx hy
      (try dsimp only [R5_ct107, divideC, natS, go_sem, Option.bind, Option.map, List.append_nil, Nat.beq, List.cons_append, List.nil_append, List.append_eq, List.map_cons, List.map_nil, ite_self, reduceIte])
      (try simp only [true_and, and_true, imp_self, implies_true, decide_eq_true_eq, decide_eq_false_iff_not, Nat.reduceAdd, Nat.reduceLeDiff, Bool.not_not, reduceCtorEq, false_imp_iff, Bool.not_eq_true', Bool.not_eq_false', Bool.false_eq_true, and_self, forall_const, ne_eq, not_false_eq_true, Nat.reduceEqDiff])
      refine ⟨fun hpos => ⟨x, y, ⟨padP_nl (by omega), rfl, padP_nl (by omega), nl_pos.1 (by omega), hy, hx⟩, fun zr => ⟨by decide, by decide, (y, x % y, zy, zr), ⟨?_, hy, ?_⟩, ?_, ?_⟩⟩, fun hge => ?_⟩
      · have hy0 : 0 < y := nl_pos.1 (by omega)
        show Nat.gcd y (x % y) = _
        rw [← hg, Nat.gcd_comm x y, Nat.gcd_rec y x, Nat.gcd_comm]
      · exact Nat.le_trans (nl_mono (Nat.mod_le _ _)) hx
      · exact Nat.mod_lt _ (nl_pos.1 (by omega))
      · simp only [leS_mk, leL_cons, leL_nil, le_junk, le_int, le_bool, le_nil, leLL_nil, leLL_cons, leH_cons, leH_nil, leH1_box, leH1_own, leH1_gone, le_vs, le_agg, le_tup, le_ptr, le_own, le_xp, le_fn, le_opt, le_val, le_elem, le_nil_own, le_nil_vs, leH_ghost, leL_chunk, leXL_id, bnd_int, bnd_bool, bnd_val, bnd_nil, bnd_junk, bnd_vs, bnd_xp, bnd_agg, bnd_tup, bnd_ptr, bnd_own, bnd_elem, bnd_fn, bnd_iface, bnd_opt, bndL_nil, bndL_cons, lenH_cons, lenH_nil, imp_self, implies_true, true_and, and_true]
        simp
      · obtain rfl : y = 0 := nl_eq0.1 (by omega)
        rw [Nat.gcd_zero_right] at hg
        have hg0 : 0 < x := by rw [hg]; exact Nat.gcd_pos_of_pos_right _ hb0
        refine ⟨a, x, ⟨padP_nl (by omega), rfl, padP_nl (by omega), hg0, hx, hn9⟩, ?_⟩
        refine ⟨by decide, by decide, b, x, ⟨padP_nl (by omega), rfl, padP_nl (by omega), hg0, hx, hm9⟩, by decide, by decide, ?_⟩
        obtain ⟨_, hl1, hl2⟩ := hok
        have e1 : a / x = rnum (nsg neg a) b := by unfold rnum fg; rw [nsg_abs, hg]
        have e2 : b / x = rden (nsg neg a) b := by unfold rden fg; rw [nsg_abs, hg]
        dsimp only at hl1 hl2
        rw [e1, e2]
        refine ⟨fun hb => ?_, fun _ => ?_⟩
        · rw [decide_eq_false (by omega), decide_eq_false (by omega)] at hb
          cases hb
        · have e3 : (neg && decide (0 < (nl (rnum (nsg neg a) b) : Int))) = decide (nsg neg a < 0) := by
            rw [nsg_neg]
            congr 2
            apply propext
            have h1 := rnum_0 (n := nsg neg a) hb0
            have h2 := nl_eq0 (a := rnum (nsg neg a) b)
            have h3 : nsg neg a = 0 ↔ a = 0 := by unfold nsg; split <;> omega
            omega
          rw [e3]
          exact ans_le (show k _ [] from h) (le_self (.tup [.agg (encF true (nsg neg a, b)), .int .i64 0]) ⟨⟨trivial, trivial, trivial, trivial⟩, trivial, trivial⟩) (fun _ => by simp [encF, natV, freshS, freshL])
  · exact h.1.elim
end Go.Proofs.YtngccjllkgpjmaaGreat

/- Fractions, walked: QMul, QDiv, QCmp, QFloor. -/
/- Fractions, walked: QMul, QDiv, QCmp, QFloor. -/
set_option linter.all false
namespace Go.Proofs.YtngccjllkgpjmaaGreat
open Go Go.Vx
set_option maxRecDepth 100000
set_option maxHeartbeats 4000000

def v64 : VF := { ntmps := 33, res := [.cell 4 true 3, .tmp 5], body :=
 (.seq (.region [u1 2 .box [.tm 0],
 u1 3 .box [.tm 1],
 u1 4 (.alloc [(.bool false), .nil, .nil]) [],
 u1 5 .mov [.cn (.int .i64 0)]])
 (.seq (.region [u1 7 (.load true 3) [.tm 2],
 u1 8 (.load true 3) [.tm 3],
 u1 9 (.buildSlice 3 2 [(.bool false), .nil, .nil] [(0, 3), (3, 3)]) [.tm 7, .tm 8],
 u1 10 (.call 88) [.tm 9],
 u1 6 .mov [.tm 10]])
 (.seq (.seq (.region [u1 11 .mov [.tm 6],
 u1 12 (.cmp .neq) [.tm 11, .cn (.int .i64 0)]])
 (.cond (.tm 12) (.seq (.region [u1 13 (.build [(.bool false), .nil, .nil] []) [],
 u1 14 .mov [.tm 6],
 u0 (.store 3) [.tm 4, .tm 13],
 u1 5 .mov [.tm 14]])
 .ret)
  .skip))
 (.seq (.draw [] [w1 15 (.fieldAddr 0) [.tm 2],
 w1 16 (.load false 1) [.tm 15],
 w1 17 (.fieldAddr 0) [.tm 3],
 w1 18 (.load false 1) [.tm 17],
 w1 19 (.eqb true) [.tm 16, .tm 18],
 w1 20 (.fieldAddr 1) [.tm 2],
 w1 21 (.load false 1) [.tm 20],
 w1 22 (.fieldAddr 1) [.tm 3],
 w1 23 (.load false 1) [.tm 22],
 w1 25 (.fieldAddr 2) [.tm 2],
 w1 26 (.load false 1) [.tm 25],
 w1 27 (.fieldAddr 2) [.tm 3],
 w1 28 (.load false 1) [.tm 27],
 w1 24 (.call 90) [.tm 21, .tm 23],
 w1 29 (.call 90) [.tm 26, .tm 28],
 w1 30 (.call 89) [.tm 19, .tm 24, .tm 29],
 w1 31 (.ext 0) [.tm 30],
 w1 32 (.ext 1) [.tm 30],
 w0 (.store 3) [.tm 4, .tm 31],
 w1 5 .mov [.tm 32]])
 .ret)))) }
theorem v64_is : vfunc Tryz.prog Tryz.f64 = some v64 := by kernel_rfl
def v87 : VF := { ntmps := 41, res := [.cell 4 true 3, .tmp 5], body :=
 (.seq (.region [u1 2 .box [.tm 0],
 u1 3 .box [.tm 1],
 u1 4 (.alloc [(.bool false), .nil, .nil]) [],
 u1 5 .mov [.cn (.int .i64 0)]])
 (.seq (.region [u1 7 (.load true 3) [.tm 2],
 u1 8 (.load true 3) [.tm 3],
 u1 9 (.buildSlice 3 2 [(.bool false), .nil, .nil] [(0, 3), (3, 3)]) [.tm 7, .tm 8],
 u1 10 (.call 88) [.tm 9],
 u1 6 .mov [.tm 10]])
 (.seq (.seq (.region [u1 11 .mov [.tm 6],
 u1 12 (.cmp .eql) [.tm 11, .cn (.int .i64 0)],
 u1 13 .mov [.tm 12],
 u2 14 13 true (.fieldAddr 1) [.tm 3],
 u2 15 13 true (.load false 1) [.tm 14],
 u2 16 13 true .len [.tm 15],
 u2 17 13 true (.cmp .eql) [.tm 16, .cn (.int .i64 0)],
 u1 18 .and [.tm 13, .tm 17]])
 (.cond (.tm 18) (.region [u1 6 .mov [.cn (.int .i64 4)]])
  .skip))
 (.seq (.seq (.region [u1 19 .mov [.tm 6],
 u1 20 (.cmp .neq) [.tm 19, .cn (.int .i64 0)]])
 (.cond (.tm 20) (.seq (.region [u1 21 (.build [(.bool false), .nil, .nil] []) [],
 u1 22 .mov [.tm 6],
 u0 (.store 3) [.tm 4, .tm 21],
 u1 5 .mov [.tm 22]])
 .ret)
  .skip))
 (.seq (.draw [] [w1 23 (.fieldAddr 0) [.tm 2],
 w1 24 (.load false 1) [.tm 23],
 w1 25 (.fieldAddr 0) [.tm 3],
 w1 26 (.load false 1) [.tm 25],
 w1 27 (.eqb true) [.tm 24, .tm 26],
 w1 28 (.fieldAddr 1) [.tm 2],
 w1 29 (.load false 1) [.tm 28],
 w1 30 (.fieldAddr 2) [.tm 3],
 w1 31 (.load false 1) [.tm 30],
 w1 33 (.fieldAddr 2) [.tm 2],
 w1 34 (.load false 1) [.tm 33],
 w1 35 (.fieldAddr 1) [.tm 3],
 w1 36 (.load false 1) [.tm 35],
 w1 32 (.call 90) [.tm 29, .tm 31],
 w1 37 (.call 90) [.tm 34, .tm 36],
 w1 38 (.call 89) [.tm 27, .tm 32, .tm 37],
 w1 39 (.ext 0) [.tm 38],
 w1 40 (.ext 1) [.tm 38],
 w0 (.store 3) [.tm 4, .tm 39],
 w1 5 .mov [.tm 40]])
 .ret))))) }
theorem v87_is : vfunc Tryz.prog Tryz.f87 = some v87 := by kernel_rfl
def v91 : VF := { ntmps := 39, res := [.tmp 4, .tmp 5], body :=
 (.seq (.region [u1 2 .box [.tm 0],
 u1 3 .box [.tm 1],
 u1 4 .mov [.cn (.int .i64 0)],
 u1 5 .mov [.cn (.int .i64 0)]])
 (.seq (.region [u1 8 (.load true 3) [.tm 2],
 u1 9 (.load true 3) [.tm 3],
 u1 10 (.buildSlice 3 2 [(.bool false), .nil, .nil] [(0, 3), (3, 3)]) [.tm 8, .tm 9],
 u1 11 (.call 88) [.tm 10],
 u1 6 .mov [.tm 11]])
 (.seq (.seq (.region [u1 12 .mov [.tm 6],
 u1 13 (.cmp .neq) [.tm 12, .cn (.int .i64 0)]])
 (.cond (.tm 13) (.seq (.region [u1 14 .mov [.tm 6],
 u1 4 .mov [.cn (.int .i64 0)],
 u1 5 .mov [.tm 14]])
 .ret)
  .skip))
 (.seq (.draw [] [w1 15 (.fieldAddr 1) [.tm 2],
 w1 16 (.load false 1) [.tm 15],
 w1 17 (.fieldAddr 2) [.tm 3],
 w1 18 (.load false 1) [.tm 17],
 w1 20 (.fieldAddr 1) [.tm 3],
 w1 21 (.load false 1) [.tm 20],
 w1 22 (.fieldAddr 2) [.tm 2],
 w1 23 (.load false 1) [.tm 22],
 w1 19 (.call 90) [.tm 16, .tm 18],
 w1 24 (.call 90) [.tm 21, .tm 23],
 w1 25 (.call 71) [.tm 19, .tm 24],
 w1 7 .mov [.tm 25]])
 (.seq (.seq (.region [u1 26 (.fieldAddr 0) [.tm 2],
 u1 27 (.load false 1) [.tm 26],
 u1 28 .mov [.tm 27],
 u2 29 28 true (.fieldAddr 0) [.tm 3],
 u2 30 28 true (.load false 1) [.tm 29],
 u1 31 .and [.tm 28, .tm 30]])
 (.cond (.tm 31) (.seq (.region [u1 32 .mov [.tm 7],
 u1 33 .neg [.tm 32],
 u1 4 .mov [.tm 33],
 u1 5 .mov [.cn (.int .i64 0)]])
 .ret)
  .skip))
 (.seq (.seq (.region [u1 34 (.fieldAddr 0) [.tm 2],
 u1 35 (.load false 1) [.tm 34]])
 (.cond (.tm 35) (.seq (.region [u1 4 .mov [.cn (.int .i64 (-1))],
 u1 5 .mov [.cn (.int .i64 0)]])
 .ret)
  .skip))
 (.seq (.seq (.region [u1 36 (.fieldAddr 0) [.tm 3],
 u1 37 (.load false 1) [.tm 36]])
 (.cond (.tm 37) (.seq (.region [u1 4 .mov [.cn (.int .i64 1)],
 u1 5 .mov [.cn (.int .i64 0)]])
 .ret)
  .skip))
 (.seq (.region [u1 38 .mov [.tm 7],
 u1 4 .mov [.tm 38],
 u1 5 .mov [.cn (.int .i64 0)]])
 .ret)))))))) }
theorem v91_is : vfunc Tryz.prog Tryz.f91 = some v91 := by kernel_rfl
def v108 : VF := { ntmps := 35, res := [.tmp 2, .tmp 3, .tmp 4], body :=
 (.seq (.region [u1 1 .box [.tm 0],
 u1 2 .mov [.cn (.bool false)],
 u1 3 .mov [.cn .nil],
 u1 4 .mov [.cn (.int .i64 0)]])
 (.seq (.region [u1 8 (.load true 3) [.tm 1],
 u1 9 (.buildSlice 3 1 [(.bool false), .nil, .nil] [(0, 3)]) [.tm 8],
 u1 10 (.call 88) [.tm 9],
 u1 5 .mov [.tm 10]])
 (.seq (.seq (.region [u1 11 .mov [.tm 5],
 u1 12 (.cmp .neq) [.tm 11, .cn (.int .i64 0)]])
 (.cond (.tm 12) (.seq (.region [u1 13 .mov [.tm 5],
 u1 2 .mov [.cn (.bool false)],
 u1 3 .mov [.cn .nil],
 u1 4 .mov [.tm 13]])
 .ret)
  .skip))
 (.seq (.region [u1 15 (.fieldAddr 1) [.tm 1],
 u1 16 (.load false 1) [.tm 15],
 u1 17 (.fieldAddr 2) [.tm 1],
 u1 18 (.load false 1) [.tm 17],
 u1 19 (.call 107) [.tm 16, .tm 18],
 u1 14 .mov [.tm 19],
 u1 20 (.ext 0) [.tm 14],
 u1 21 (.ext 1) [.tm 14],
 u1 6 .mov [.tm 20],
 u1 7 .mov [.tm 21]])
 (.seq (.seq (.region [u1 22 (.fieldAddr 0) [.tm 1],
 u1 23 (.load false 1) [.tm 22],
 u1 24 .mov [.tm 23],
 u2 25 24 true .mov [.tm 7],
 u2 26 24 true .len [.tm 25],
 u2 27 24 true (.cmp .gtr) [.tm 26, .cn (.int .i64 0)],
 u1 28 .and [.tm 24, .tm 27]])
 (.cond (.tm 28) (.region [u1 29 .mov [.tm 6],
 u1 30 (.call 68) [.cn (.int .u64 1)],
 u1 31 (.call 97) [.tm 29, .tm 30],
 u1 6 .mov [.tm 31]])
  .skip))
 (.seq (.region [u1 32 (.fieldAddr 0) [.tm 1],
 u1 33 (.load false 1) [.tm 32],
 u1 34 .mov [.tm 6],
 u1 2 .mov [.tm 33],
 u1 3 .mov [.tm 34],
 u1 4 .mov [.cn (.int .i64 0)]])
 .ret)))))) }
theorem v108_is : vfunc Tryz.prog Tryz.f108 = some v108 := by kernel_rfl


theorem nl_mul {a b : Nat} : nl (a * b) ≤ nl a + nl b := by
  rw [nl_le, Nat.pow_add]
  exact Nat.mul_lt_mul'' (nl_lt a) (nl_lt b)
theorem encF_eq {t : Bool} {p q : Fr} (h : rnum p.1 p.2 = rnum q.1 q.2 ∧ rden p.1 p.2 = rden q.1 q.2 ∧ decide (p.1 < 0) = decide (q.1 < 0)) : encF t p = encF t q := by
  unfold encF; rw [h.1, h.2.1, h.2.2]
theorem frOk_eq {p q : Fr} (h : rnum p.1 p.2 = rnum q.1 q.2 ∧ rden p.1 p.2 = rden q.1 q.2 ∧ decide (p.1 < 0) = decide (q.1 < 0)) (hq : frOk q) (hd : 0 < p.2) : frOk p :=
  ⟨hd, by rw [h.1]; exact hq.2.1, by rw [h.2.1]; exact hq.2.2⟩
theorem list2 {p q : Fr} (hp : frOk p) (hq : frOk q) : ∀ x ∈ [p, q], frOk x := by
  intro x hx
  simp only [List.mem_cons, List.not_mem_nil, or_false] at hx
  rcases hx with rfl | rfl
  · exact hp
  · exact hq
theorem list1 {p : Fr} (hp : frOk p) : ∀ x ∈ [p], frOk x := by
  intro x hx
  simp only [List.mem_cons, List.not_mem_nil, or_false] at hx
  rcases hx with rfl
  exact hp
theorem fr_le {p : Fr} {neg t1 z1 t2 z2 : Bool} {n1 s1 n2 s2 : Nat} {g1 g2 : Nat → List SV} (h : fracP p neg z1 n1 s1 g1 z2 n2 s2 g2) : le 0 0 (.agg [.bool neg, .vs t1 z1 n1 s1 g1, .vs t2 z2 n2 s2 g2]) (.agg (encF false p)) := by
  obtain ⟨_, h1, h2, h3, h4, h5, h6, h7, h8, h9⟩ := h
  simp only [encF, natV, le_agg, leL_cons, leL_nil, le_bool, le_vs]
  exact ⟨h1, ⟨fun h => (by cases h), h2, h6, h4, h8⟩, ⟨fun h => (by cases h), h3, h7, h5, h9⟩, trivial⟩
theorem ans_fr {k : SV → List HO → Prop} {al : Bool} {hp : List HO} {p : Fr} (h : k (.tup [.agg (encF true p), .int .i64 0]) []) : answers al k (.tup [.agg (encF true p), .int .i64 0]) hp :=
  ans_le (show k _ [] from h) (le_self (.tup [.agg (encF true p), .int .i64 0]) ⟨⟨trivial, trivial, trivial, trivial⟩, trivial, trivial⟩) (fun _ => by simp [encF, natV, freshS, freshL])

theorem ans_ii {k : SV → List HO → Prop} {al : Bool} {hp : List HO} {κ κ' : IntKind} {x y : Int} (h : k (.tup [.int κ x, .int κ' y]) []) : answers al k (.tup [.int κ x, .int κ' y]) hp :=
  ans_le (show k _ [] from h) (le_self (.tup [.int κ x, .int κ' y]) ⟨trivial, trivial, trivial⟩) (fun _ => by simp [freshS, freshL])
theorem ordN_rng (a b : Nat) : -1 ≤ ordN a b ∧ ordN a b ≤ 1 := by unfold ordN; split <;> (try split) <;> omega

def qmulC : Ctr := { alias := false, of := fun l => match l with
  | [.agg [.bool neg, .vs _ z1 n1 s1 g1, .vs _ z2 n2 s2 g2], .agg [.bool neg', .vs _ z1' n1' s1' g1', .vs _ z2' n2' s2' g2']] => .ex Fr fun p => .ex Fr fun q =>
      .pre (fracP p neg z1 n1 s1 g1 z2 n2 s2 g2 ∧ fracP q neg' z1' n1' s1' g1' z2' n2' s2' g2' ∧ frOk (p.1 * q.1, p.2 * q.2)) (.fin (.tup [.agg (encF true (p.1 * q.1, p.2 * q.2)), .int .i64 0]) [])
  | _ => noC }
def divF (p q : Fr) : Fr := (nsg (decide (q.1 < 0)) 1 * p.1 * q.2, p.2 * q.1.natAbs)
def qdivC : Ctr := { alias := false, of := fun l => match l with
  | [.agg [.bool neg, .vs _ z1 n1 s1 g1, .vs _ z2 n2 s2 g2], .agg [.bool neg', .vs _ z1' n1' s1' g1', .vs _ z2' n2' s2' g2']] => .ex Fr fun p => .ex Fr fun q =>
      .pre (fracP p neg z1 n1 s1 g1 z2 n2 s2 g2 ∧ fracP q neg' z1' n1' s1' g1' z2' n2' s2' g2' ∧ q.1 ≠ 0 ∧ frOk (divF p q)) (.fin (.tup [.agg (encF true (divF p q)), .int .i64 0]) [])
  | _ => noC }
def qcmpC : Ctr := { alias := false, of := fun l => match l with
  | [.agg [.bool neg, .vs _ z1 n1 s1 g1, .vs _ z2 n2 s2 g2], .agg [.bool neg', .vs _ z1' n1' s1' g1', .vs _ z2' n2' s2' g2']] => .ex Fr fun p => .ex Fr fun q =>
      .pre (fracP p neg z1 n1 s1 g1 z2 n2 s2 g2 ∧ fracP q neg' z1' n1' s1' g1' z2' n2' s2' g2') (.fin (.tup [.int .i64 (cmpQ p.1 p.2 q.1 q.2), .int .i64 0]) [])
  | _ => noC }
def qfloorC : Ctr := { alias := false, of := fun l => match l with
  | [.agg [.bool neg, .vs _ z1 n1 s1 g1, .vs _ z2 n2 s2 g2]] => .ex Fr fun p =>
      .pre (fracP p neg z1 n1 s1 g1 z2 n2 s2 g2) (.fin (.tup [.bool (decide (p.1 < 0)), natS false (p.1 / (p.2 : Int)).natAbs, .int .i64 0]) [])
  | _ => noC }

def R6 : Env := { ct := fun n => match n with | 88 => some badqC | 89 => some lowestC | 90 => some timesC | 71 => some orderC | 68 => some ofC | 107 => some divideC | 97 => some plusC | _ => none, fn := fun _ => none, meth := fun _ _ => none }
theorem R6_ct88 : R6.ct 88 = some badqC := rfl
theorem R6_ct89 : R6.ct 89 = some lowestC := rfl
theorem R6_ct90 : R6.ct 90 = some timesC := rfl
theorem R6_ct71 : R6.ct 71 = some orderC := rfl
theorem R6_ct68 : R6.ct 68 = some ofC := rfl
theorem R6_ct107 : R6.ct 107 = some divideC := rfl
theorem R6_ct97 : R6.ct 97 = some plusC := rfl
theorem R6_ok : EnvOk Tryz.prog R6 := by
  refine ⟨fun f c h => ?_, fun f vf h => ?_, (fun _ _ _ h => by cases h), by kernel_rfl⟩
  · simp only [R6] at h
    split at h
    · cases h; exact ⟨badq_ok, Tryz.f88, Tryz.func88, by kernel_rfl, by kernel_rfl⟩
    · cases h; exact ⟨lowest_ok, Tryz.f89, Tryz.func89, by kernel_rfl, by kernel_rfl⟩
    · cases h; exact ⟨times_ok, Tryz.f90, Tryz.func90, by kernel_rfl, by kernel_rfl⟩
    · cases h; exact ⟨order_ok, Tryz.f71, Tryz.func71, by kernel_rfl, by kernel_rfl⟩
    · cases h; exact ⟨of_ok, Tryz.f68, Tryz.func68, by kernel_rfl, by kernel_rfl⟩
    · cases h; exact ⟨divide_ok, Tryz.f107, Tryz.func107, by kernel_rfl, by kernel_rfl⟩
    · cases h; exact ⟨plus_ok, Tryz.f97, Tryz.func97, by kernel_rfl, by kernel_rfl⟩
    · cases h
  · cases h


theorem qmul_ok : qmulC.ok Tryz.prog 64 := by
  refine contract Tryz.func64 v64_is R6_ok 300 qmulC fun args k h => ?_
  simp only [qmulC] at h
  split at h
  · rename_i neg t1 z1 n1 s1 g1 t2 z2 n2 s2 g2 neg' t1' z1' n1' s1' g1' t2' z2' n2' s2' g2'
    obtain ⟨p, q, ⟨hpp, hqq, hpq⟩, h⟩ := h
    refine ⟨[.agg (encF false p), .agg (encF false q)], ⟨fr_le hpp, fr_le hqq, trivial⟩, ?_⟩
    have hp := hpp.1
    have hq := hqq.1
    clear hpp hqq
    (try dsimp only [v64, R6_ct88, R6_ct89, R6_ct90, badqC, lowestC, timesC, natS, natV, encF, go_sem, Option.bind, Option.map, List.append_nil, Nat.beq, List.cons_append, List.nil_append, List.append_eq, List.map_cons, List.map_nil, ite_self, reduceIte])
    simp only [true_and, and_true, imp_self, implies_true, decide_eq_true_eq, decide_eq_false_iff_not, Nat.reduceAdd, Nat.reduceLeDiff, Bool.not_not, reduceCtorEq, false_imp_iff, Bool.not_eq_true', Bool.not_eq_false', Bool.false_eq_true, and_self, forall_const, ne_eq, not_false_eq_true, Nat.reduceEqDiff, decide_true, decide_false, Bool.and_true, Bool.true_and, Bool.and_false, Bool.false_and, Bool.not_true, Bool.not_false, Bool.or_false, Bool.false_or, Bool.or_true, Bool.true_or, Bool.and_self, Bool.or_self, Bool.false_eq_true, Bool.true_eq_false, false_imp_iff, forall_const, true_and, and_true, implies_true, reduceCtorEq, not_true_eq_false, not_false_eq_true, ite_true, ite_false]
    have ⟨hp0, hp1, hp2⟩ := hp
    have ⟨hq0, hq1, hq2⟩ := hq
    have m1 := @nl_mul (rnum p.1 p.2) (rnum q.1 q.2)
    have m2 := @nl_mul (rden p.1 p.2) (rden q.1 q.2)
    have hz := q_mul hp0 hq0 (n1 := p.1) (n2 := q.1) rfl
    have hdp : 0 < rden p.1 p.2 * rden q.1 q.2 := Nat.mul_pos (rden_pos hp0) (rden_pos hq0)
    have hM : frOk (nsg (!(decide (p.1 < 0) == decide (q.1 < 0))) (rnum p.1 p.2 * rnum q.1 q.2), rden p.1 p.2 * rden q.1 q.2) := frOk_eq (q := (p.1 * q.1, p.2 * q.2)) hz hpq hdp
    refine ⟨by decide, [p, q], ⟨⟨rfl, rfl, fun k hk => match k, hk with | 0, _ => leXL_self _ | 1, _ => leXL_self _⟩, by simp, list2 hp hq⟩, rnum p.1 p.2, rnum q.1 q.2, ⟨padP_nl (by omega), padP_nl (by omega), by omega⟩, rden p.1 p.2, rden q.1 q.2, ⟨padP_nl (by omega), padP_nl (by omega), by omega⟩,
      rnum p.1 p.2 * rnum q.1 q.2, rden p.1 p.2 * rden q.1 q.2, ⟨padP_nl (by omega), rfl, padP_nl (by omega), rfl, hdp, by omega, by omega, hM⟩, by decide, by decide, ?_⟩
    have e := encF_eq (t := true) (p := (nsg (!(decide (p.1 < 0) == decide (q.1 < 0))) (rnum p.1 p.2 * rnum q.1 q.2), rden p.1 p.2 * rden q.1 q.2)) (q := (p.1 * q.1, p.2 * q.2)) hz
    have h : k (.tup [.agg (encF true (p.1 * q.1, p.2 * q.2)), .int .i64 0]) [] := h
    rw [← e] at h
    exact ans_fr h
  · exact h.1.elim

theorem qdiv_ok : qdivC.ok Tryz.prog 87 := by
  refine contract Tryz.func87 v87_is R6_ok 300 qdivC fun args k h => ?_
  simp only [qdivC] at h
  split at h
  · rename_i neg t1 z1 n1 s1 g1 t2 z2 n2 s2 g2 neg' t1' z1' n1' s1' g1' t2' z2' n2' s2' g2'
    obtain ⟨p, q, ⟨hpp, hqq, hn0, hpq⟩, h⟩ := h
    refine ⟨[.agg (encF false p), .agg (encF false q)], ⟨fr_le hpp, fr_le hqq, trivial⟩, ?_⟩
    have hp := hpp.1
    have hq := hqq.1
    clear hpp hqq
    (try dsimp only [v87, R6_ct88, R6_ct89, R6_ct90, badqC, lowestC, timesC, natS, natV, encF, go_sem, Option.bind, Option.map, List.append_nil, Nat.beq, List.cons_append, List.nil_append, List.append_eq, List.map_cons, List.map_nil, ite_self, reduceIte])
    simp only [true_and, and_true, imp_self, implies_true, decide_eq_true_eq, decide_eq_false_iff_not, Nat.reduceAdd, Nat.reduceLeDiff, Bool.not_not, reduceCtorEq, false_imp_iff, Bool.not_eq_true', Bool.not_eq_false', Bool.false_eq_true, and_self, forall_const, ne_eq, not_false_eq_true, Nat.reduceEqDiff, decide_true, decide_false, Bool.and_true, Bool.true_and, Bool.and_false, Bool.false_and, Bool.not_true, Bool.not_false, Bool.or_false, Bool.false_or, Bool.or_true, Bool.true_or, Bool.and_self, Bool.or_self, Bool.false_eq_true, Bool.true_eq_false, false_imp_iff, forall_const, true_and, and_true, implies_true, reduceCtorEq, not_true_eq_false, not_false_eq_true, ite_true, ite_false]
    have ⟨hp0, hp1, hp2⟩ := hp
    have ⟨hq0, hq1, hq2⟩ := hq
    have m1 := @nl_mul (rnum p.1 p.2) (rden q.1 q.2)
    have m2 := @nl_mul (rden p.1 p.2) (rnum q.1 q.2)
    have hz := q_div hp0 hq0 hn0 (n1 := p.1) (n2 := q.1) rfl
    have hrn : 0 < rnum q.1 q.2 := Nat.pos_of_ne_zero fun hh => hn0 ((rnum_0 hq0).1 hh)
    have hdp : 0 < rden p.1 p.2 * rnum q.1 q.2 := Nat.mul_pos (rden_pos hp0) hrn
    have hrl := nl_pos.2 hrn
    refine ⟨by decide, [p, q], ⟨⟨rfl, rfl, fun k hk => match k, hk with | 0, _ => leXL_self _ | 1, _ => leXL_self _⟩, by simp, list2 hp hq⟩, ?_⟩
    have hM : frOk (nsg (!(decide (p.1 < 0) == decide (q.1 < 0))) (rnum p.1 p.2 * rden q.1 q.2), rden p.1 p.2 * rnum q.1 q.2) := frOk_eq (q := divF p q) hz hpq hdp
    refine ⟨fun hh => by omega, fun _ => ⟨rnum p.1 p.2, rden q.1 q.2, ⟨padP_nl (by omega), padP_nl (by omega), by omega⟩, rden p.1 p.2, rnum q.1 q.2, ⟨padP_nl (by omega), padP_nl (by omega), by omega⟩,
      rnum p.1 p.2 * rden q.1 q.2, rden p.1 p.2 * rnum q.1 q.2, ⟨padP_nl (by omega), rfl, padP_nl (by omega), rfl, hdp, by omega, by omega, hM⟩, by decide, by decide, ?_⟩⟩
    have e := encF_eq (t := true) (p := (nsg (!(decide (p.1 < 0) == decide (q.1 < 0))) (rnum p.1 p.2 * rden q.1 q.2), rden p.1 p.2 * rnum q.1 q.2)) (q := divF p q) hz
    have h : k (.tup [.agg (encF true (divF p q)), .int .i64 0]) [] := h
    rw [← e] at h
    exact ans_fr h
  · exact h.1.elim

theorem qcmp_ok : qcmpC.ok Tryz.prog 91 := by
  refine contract Tryz.func91 v91_is R6_ok 300 qcmpC fun args k h => ?_
  simp only [qcmpC] at h
  split at h
  · rename_i neg t1 z1 n1 s1 g1 t2 z2 n2 s2 g2 neg' t1' z1' n1' s1' g1' t2' z2' n2' s2' g2'
    obtain ⟨p, q, ⟨hpp, hqq⟩, h⟩ := h
    refine ⟨[.agg (encF false p), .agg (encF false q)], ⟨fr_le hpp, fr_le hqq, trivial⟩, ?_⟩
    have hp := hpp.1
    have hq := hqq.1
    clear hpp hqq
    (try dsimp only [v91, R6_ct88, R6_ct71, R6_ct90, badqC, orderC, timesC, natS, natV, encF, go_sem, Option.bind, Option.map, List.append_nil, Nat.beq, List.cons_append, List.nil_append, List.append_eq, List.map_cons, List.map_nil, ite_self, reduceIte])
    simp only [true_and, and_true, imp_self, implies_true, decide_eq_true_eq, decide_eq_false_iff_not, Nat.reduceAdd, Nat.reduceLeDiff, Bool.not_not, reduceCtorEq, false_imp_iff, Bool.not_eq_true', Bool.not_eq_false', Bool.false_eq_true, and_self, forall_const, ne_eq, not_false_eq_true, Nat.reduceEqDiff, decide_true, decide_false, Bool.and_true, Bool.true_and, Bool.and_false, Bool.false_and, Bool.not_true, Bool.not_false, Bool.or_false, Bool.false_or, Bool.or_true, Bool.true_or, Bool.and_self, Bool.or_self, Bool.false_eq_true, Bool.true_eq_false, false_imp_iff, forall_const, true_and, and_true, implies_true, reduceCtorEq, not_true_eq_false, not_false_eq_true, ite_true, ite_false]
    have ⟨hp0, hp1, hp2⟩ := hp
    have ⟨hq0, hq1, hq2⟩ := hq
    have m1 := @nl_mul (rnum p.1 p.2) (rden q.1 q.2)
    have m2 := @nl_mul (rnum q.1 q.2) (rden p.1 p.2)
    refine ⟨by decide, [p, q], ⟨⟨rfl, rfl, fun k hk => match k, hk with | 0, _ => leXL_self _ | 1, _ => leXL_self _⟩, by simp, list2 hp hq⟩, rnum p.1 p.2, rden q.1 q.2, ⟨padP_nl (by omega), padP_nl (by omega), by omega⟩, rnum q.1 q.2, rden p.1 p.2, ⟨padP_nl (by omega), padP_nl (by omega), by omega⟩, rnum p.1 p.2 * rden q.1 q.2, rnum q.1 q.2 * rden p.1 p.2, ⟨padP_nl (by omega), padP_nl (by omega)⟩, ?_⟩
    have e := q_cmp hp0 hq0 (n1 := p.1) (n2 := q.1)
    have h : k (.tup [.int .i64 (cmpQ p.1 p.2 q.1 q.2), .int .i64 0]) [] := h
    rw [e] at h
    have ho := ordN_rng (rnum p.1 p.2 * rden q.1 q.2) (rnum q.1 q.2 * rden p.1 p.2)
    refine ⟨fun hc => ?_, fun hc => ⟨fun hd => ?_, fun hd => ⟨fun he => ?_, fun he => ?_⟩⟩⟩
    · rw [Bool.and_eq_true, decide_eq_true_eq, decide_eq_true_eq] at hc
      rw [if_pos hc] at h
      rw [IntWalk.i64_in _ (by omega), Int.zero_sub]
      exact ans_ii h
    · rw [Bool.and_eq_false_iff, decide_eq_false_iff_not, decide_eq_false_iff_not] at hc
      rw [if_neg (by omega), if_pos hd] at h
      exact ans_ii h
    · rw [if_neg (by omega), if_neg hd, if_pos he] at h
      exact ans_ii h
    · rw [if_neg (by omega), if_neg hd, if_neg he] at h
      exact ans_ii h
  · exact h.1.elim

theorem qfloor_ok : qfloorC.ok Tryz.prog 108 := by
  refine contract Tryz.func108 v108_is R6_ok 300 qfloorC fun args k h => ?_
  simp only [qfloorC] at h
  split at h
  · rename_i neg t1 z1 n1 s1 g1 t2 z2 n2 s2 g2
    obtain ⟨p, hpp, h⟩ := h
    refine ⟨[.agg (encF false p)], ⟨fr_le hpp, trivial⟩, ?_⟩
    have hp := hpp.1
    clear hpp
    (try dsimp only [v108, R6_ct88, R6_ct107, R6_ct97, R6_ct68, badqC, divideC, plusC, ofC, natS, natV, encF, go_sem, Option.bind, Option.map, List.append_nil, Nat.beq, List.cons_append, List.nil_append, List.append_eq, List.map_cons, List.map_nil, ite_self, reduceIte])
    simp only [true_and, and_true, imp_self, implies_true, decide_eq_true_eq, decide_eq_false_iff_not, Nat.reduceAdd, Nat.reduceLeDiff, Bool.not_not, reduceCtorEq, false_imp_iff, Bool.not_eq_true', Bool.not_eq_false', Bool.false_eq_true, and_self, forall_const, ne_eq, not_false_eq_true, Nat.reduceEqDiff, decide_true, decide_false, Bool.and_true, Bool.true_and, Bool.and_false, Bool.false_and, Bool.not_true, Bool.not_false, Bool.or_false, Bool.false_or, Bool.or_true, Bool.true_or, Bool.and_self, Bool.or_self, Bool.false_eq_true, Bool.true_eq_false, false_imp_iff, forall_const, true_and, and_true, implies_true, reduceCtorEq, not_true_eq_false, not_false_eq_true, ite_true, ite_false]
    have ⟨hp0, hp1, hp2⟩ := hp
    refine ⟨by decide, [p], ⟨⟨rfl, rfl, fun k hk => match k, hk with | 0, _ => leXL_self _⟩, by simp, list1 hp⟩, rnum p.1 p.2, rden p.1 p.2, ⟨padP_nl (by omega), rfl, padP_nl (by omega), rden_pos hp0, by omega, by omega⟩, ?_⟩
    have hdl := rden_pos (n := p.1) hp0
    have e := congrArg Int.natAbs (q_floor (n := p.1) hp0)
    rw [nsg_abs] at e
    have h : k (.tup [.bool (decide (p.1 < 0)), natS false (p.1 / (p.2 : Int)).natAbs, .int .i64 0]) [] := h
    rw [e] at h
    have hdv : nl (rnum p.1 p.2 / rden p.1 p.2) ≤ 512 := Nat.le_trans (nl_mono (Nat.div_le_self _ _)) hp1
    have hb : decide (0 < (nl (rnum p.1 p.2 % rden p.1 p.2) : Int)) = decide (rnum p.1 p.2 % rden p.1 p.2 ≠ 0) := by
      congr 1
      have := nl_eq0 (a := rnum p.1 p.2 % rden p.1 p.2)
      exact propext (by omega)
    rw [hb]
    have hfin : ∀ x : Nat, k (.tup [.bool (decide (p.1 < 0)), natS false x, .int .i64 0]) [] → ∀ hp, answers qfloorC.alias k (.tup [.bool (decide (p.1 < 0)), .vs true false (nl x) 1 (fun k => [.int .u32 (dig x k)]), .int .i64 0]) hp := fun x hk hp =>
      ans_le (show k _ [] from hk) (le_self (.tup [.bool (decide (p.1 < 0)), natS false x, .int .i64 0]) ⟨trivial, trivial, trivial, trivial⟩) (fun _ => by simp [natS, freshS, freshL])
    refine ⟨by decide, by decide, fun hc => ⟨by decide, rnum p.1 p.2 / rden p.1 p.2, 1, ⟨padP_nl (by omega), padP_nl (by decide), by omega, by decide⟩, hfin _ ?_ _⟩, fun hc => hfin _ ?_ _⟩
    · rw [floorN, if_pos hc] at h; exact h
    · rw [floorN, if_neg (by rw [hc]; simp)] at h; exact h
  · exact h.1.elim
end Go.Proofs.YtngccjllkgpjmaaGreat

/- Fractions, walked: QAdd, QSub, Small. -/
/- Fractions, walked: QAdd, QSub, Small. -/
set_option linter.all false
namespace Go.Proofs.YtngccjllkgpjmaaGreat
open Go Go.Vx
set_option maxRecDepth 100000
set_option maxHeartbeats 4000000

def v112 : VF := { ntmps := 69, res := [.cell 4 true 3, .tmp 5], body :=
 (.seq (.region [u1 2 .box [.tm 0],
 u1 3 .box [.tm 1],
 u1 4 (.alloc [(.bool false), .nil, .nil]) [],
 u1 5 .mov [.cn (.int .i64 0)]])
 (.seq (.region [u1 10 (.load true 3) [.tm 2],
 u1 11 (.load true 3) [.tm 3],
 u1 12 (.buildSlice 3 2 [(.bool false), .nil, .nil] [(0, 3), (3, 3)]) [.tm 10, .tm 11],
 u1 13 (.call 88) [.tm 12],
 u1 6 .mov [.tm 13]])
 (.seq (.seq (.region [u1 14 .mov [.tm 6],
 u1 15 (.cmp .neq) [.tm 14, .cn (.int .i64 0)]])
 (.cond (.tm 15) (.seq (.region [u1 16 (.build [(.bool false), .nil, .nil] []) [],
 u1 17 .mov [.tm 6],
 u0 (.store 3) [.tm 4, .tm 16],
 u1 5 .mov [.tm 17]])
 .ret)
  .skip))
 (.seq (.draw [] [w1 18 (.fieldAddr 1) [.tm 2],
 w1 19 (.load false 1) [.tm 18],
 w1 20 (.fieldAddr 2) [.tm 3],
 w1 21 (.load false 1) [.tm 20],
 w1 23 (.fieldAddr 1) [.tm 3],
 w1 24 (.load false 1) [.tm 23],
 w1 25 (.fieldAddr 2) [.tm 2],
 w1 26 (.load false 1) [.tm 25],
 w1 28 (.fieldAddr 2) [.tm 2],
 w1 29 (.load false 1) [.tm 28],
 w1 30 (.fieldAddr 2) [.tm 3],
 w1 31 (.load false 1) [.tm 30],
 w1 22 (.call 90) [.tm 19, .tm 21],
 w1 27 (.call 90) [.tm 24, .tm 26],
 w1 32 (.call 90) [.tm 29, .tm 31],
 w1 7 .mov [.tm 22],
 w1 8 .mov [.tm 27],
 w1 9 .mov [.tm 32]])
 (.seq (.seq (.region [u1 33 (.fieldAddr 0) [.tm 2],
 u1 34 (.load false 1) [.tm 33],
 u1 35 (.fieldAddr 0) [.tm 3],
 u1 36 (.load false 1) [.tm 35],
 u1 37 (.eqb false) [.tm 34, .tm 36]])
 (.cond (.tm 37) (.seq (.draw [] [w1 38 (.fieldAddr 0) [.tm 2],
 w1 39 (.load false 1) [.tm 38],
 w1 40 .mov [.tm 7],
 w1 41 .mov [.tm 8],
 w1 43 .mov [.tm 9],
 w1 42 (.call 97) [.tm 40, .tm 41],
 w1 44 (.call 89) [.tm 39, .tm 42, .tm 43],
 w1 45 (.ext 0) [.tm 44],
 w1 46 (.ext 1) [.tm 44],
 w0 (.store 3) [.tm 4, .tm 45],
 w1 5 .mov [.tm 46]])
 .ret)
  .skip))
 (.seq (.seq (.region [u1 47 .mov [.tm 7],
 u1 48 .mov [.tm 8],
 u1 49 (.call 71) [.tm 47, .tm 48],
 u1 50 (.cmp .geq) [.tm 49, .cn (.int .i64 0)]])
 (.cond (.tm 50) (.seq (.draw [] [w1 51 (.fieldAddr 0) [.tm 2],
 w1 52 (.load false 1) [.tm 51],
 w1 53 .mov [.tm 7],
 w1 54 .mov [.tm 8],
 w1 56 .mov [.tm 9],
 w1 55 (.call 115) [.tm 53, .tm 54],
 w1 57 (.call 89) [.tm 52, .tm 55, .tm 56],
 w1 58 (.ext 0) [.tm 57],
 w1 59 (.ext 1) [.tm 57],
 w0 (.store 3) [.tm 4, .tm 58],
 w1 5 .mov [.tm 59]])
 .ret)
  .skip))
 (.seq (.draw [] [w1 60 (.fieldAddr 0) [.tm 3],
 w1 61 (.load false 1) [.tm 60],
 w1 62 .mov [.tm 8],
 w1 63 .mov [.tm 7],
 w1 65 .mov [.tm 9],
 w1 64 (.call 115) [.tm 62, .tm 63],
 w1 66 (.call 89) [.tm 61, .tm 64, .tm 65],
 w1 67 (.ext 0) [.tm 66],
 w1 68 (.ext 1) [.tm 66],
 w0 (.store 3) [.tm 4, .tm 67],
 w1 5 .mov [.tm 68]])
 .ret))))))) }
theorem v112_is : vfunc Tryz.prog Tryz.f112 = some v112 := by kernel_rfl
def v70 : VF := { ntmps := 24, res := [.tmp 2, .tmp 3], body :=
 (.seq (.region [u1 2 .mov [.cn (.int .u64 0)],
 u1 3 .mov [.cn (.int .i64 0)]])
 (.seq (.region [u1 5 .mov [.tm 0],
 u1 6 (.buildSlice 1 1 [.nil] [(0, 1)]) [.tm 5],
 u1 7 (.call 94) [.tm 6],
 u1 4 .mov [.tm 7]])
 (.seq (.seq (.region [u1 8 .mov [.tm 4],
 u1 9 (.cmp .eql) [.tm 8, .cn (.int .i64 0)],
 u1 10 .mov [.tm 9],
 u2 11 10 true .mov [.tm 0],
 u2 12 10 true .len [.tm 11],
 u2 13 10 true (.cmp .gtr) [.tm 12, .cn (.int .i64 2)],
 u1 14 .and [.tm 10, .tm 13]])
 (.cond (.tm 14) (.region [u1 4 .mov [.cn (.int .i64 7)]])
  .skip))
 (.seq (.seq (.region [u1 15 .mov [.tm 4],
 u1 16 (.cmp .neq) [.tm 15, .cn (.int .i64 0)]])
 (.cond (.tm 16) (.seq (.region [u1 17 .mov [.tm 4],
 u1 2 .mov [.cn (.int .u64 0)],
 u1 3 .mov [.tm 17]])
 .ret)
  .skip))
 (.seq (.region [u1 18 .mov [.tm 0],
 u1 19 (.call 100) [.tm 18, .cn (.int .i64 1)],
 u1 20 (.ari .mul) [.tm 19, .cn (.int .u64 4294967296)],
 u1 21 .mov [.tm 0],
 u1 22 (.call 100) [.tm 21, .cn (.int .i64 0)],
 u1 23 (.ari .add) [.tm 20, .tm 22],
 u1 2 .mov [.tm 23],
 u1 3 .mov [.cn (.int .i64 0)]])
 .ret))))) }
theorem v70_is : vfunc Tryz.prog Tryz.f70 = some v70 := by kernel_rfl
def v94 : VF := { ntmps := 29, res := [.tmp 2], body :=
 (.seq (.region [u1 2 .mov [.cn (.int .i64 0)]])
 (.seq (.seq (.region [u1 3 .mov [.cn (.int .i64 0)]])
 (.block 0 (.loop (.seq (.seq (.region [u1 5 .mov [.tm 3],
 u1 6 .mov [.tm 0],
 u1 7 .len [.tm 6],
 u1 8 (.cmp .lss) [.tm 5, .tm 7]])
 (.cond (.tm 8) .skip
  (.exit 0)))
 (.seq (.block 1 (.seq (.region [u1 11 .mov [.tm 0],
 u1 12 .mov [.tm 3],
 u1 13 (.idxAddr 1) [.tm 11, .tm 12],
 u1 14 (.load false 1) [.tm 13],
 u1 15 .len [.tm 14],
 u1 16 (.cmp .gtr) [.tm 15, .cn (.int .i64 512)]])
 (.cond (.tm 16) (.seq (.region [u1 2 .mov [.cn (.int .i64 3)]])
 .ret)
  .skip)))
 (.region [u1 9 .mov [.tm 3],
 u1 10 (.ari .add) [.tm 9, .cn (.int .i64 1)],
 u1 3 .mov [.tm 10]]))))))
 (.seq (.seq (.region [u1 4 .mov [.cn (.int .i64 0)]])
 (.block 2 (.loop (.seq (.seq (.region [u1 17 .mov [.tm 4],
 u1 18 .mov [.tm 0],
 u1 19 .len [.tm 18],
 u1 20 (.cmp .lss) [.tm 17, .tm 19]])
 (.cond (.tm 20) .skip
  (.exit 2)))
 (.seq (.block 3 (.seq (.region [u1 23 .mov [.tm 0],
 u1 24 .mov [.tm 4],
 u1 25 (.idxAddr 1) [.tm 23, .tm 24],
 u1 26 (.load false 1) [.tm 25],
 u1 27 (.call 109) [.tm 26],
 u1 28 .not [.tm 27]])
 (.cond (.tm 28) (.seq (.region [u1 2 .mov [.cn (.int .i64 2)]])
 .ret)
  .skip)))
 (.region [u1 21 .mov [.tm 4],
 u1 22 (.ari .add) [.tm 21, .cn (.int .i64 1)],
 u1 4 .mov [.tm 22]]))))))
 (.seq (.region [u1 2 .mov [.cn (.int .i64 0)]])
 .ret)))) }
theorem v94_is : vfunc Tryz.prog Tryz.f94 = some v94 := by kernel_rfl


theorem nl_add {a b n : Nat} (ha : nl a ≤ n) (hb : nl b ≤ n) : nl (a + b) ≤ n + 1 := by
  rw [nl_le] at *
  rw [pw_succ]; omega
theorem ord_ge {a b : Nat} : 0 ≤ ordN a b ↔ b ≤ a := by unfold ordN; split <;> (try split) <;> omega

def addQ (p q : Fr) : Fr := (p.1 * q.2 + q.1 * p.2, p.2 * q.2)
def qaddC : Ctr := { alias := false, of := fun l => match l with
  | [.agg [.bool neg, .vs _ z1 n1 s1 g1, .vs _ z2 n2 s2 g2], .agg [.bool neg', .vs _ z1' n1' s1' g1', .vs _ z2' n2' s2' g2']] => .ex Fr fun p => .ex Fr fun q =>
      .pre (fracP p neg z1 n1 s1 g1 z2 n2 s2 g2 ∧ fracP q neg' z1' n1' s1' g1' z2' n2' s2' g2' ∧ frOk (addQ p q)) (.fin (.tup [.agg (encF true (addQ p q)), .int .i64 0]) [])
  | _ => noC }
def turnF (p : Fr) : Fr := (-p.1, p.2)
def qsubC : Ctr := { alias := false, of := fun l => match l with
  | [.agg [.bool neg, .vs _ z1 n1 s1 g1, .vs _ z2 n2 s2 g2], .agg [.bool neg', .vs _ z1' n1' s1' g1', .vs _ z2' n2' s2' g2']] => .ex Fr fun p => .ex Fr fun q =>
      .pre (fracP p neg z1 n1 s1 g1 z2 n2 s2 g2 ∧ fracP q neg' z1' n1' s1' g1' z2' n2' s2' g2' ∧ frOk (addQ p (turnF q))) (.fin (.tup [.agg (encF true (addQ p (turnF q))), .int .i64 0]) [])
  | _ => noC }

/-- Lists of numbers. -/
def encN (p : Bool × Nat) : List SV := [natV false p.1 p.2]
def badnC : Ctr := { alias := false, of := fun l => match l with
  | [.vs _ _ n sz get] => .ex (List (Bool × Nat)) fun l => .pre (lsP 1 encN n sz get l ∧ l.length ≤ 1000 ∧ ∀ p ∈ l, nl p.2 ≤ 512) (.fin (.int .i64 0) [])
  | _ => noC }
/-- The least two limbs. -/
def smallC : Ctr := { alias := false, of := fun l => match l with
  | [.vs _ z n sz get] => .ex Nat fun a => .pre (padP a n sz get ∧ n = nl a ∧ n ≤ 512) (.fin (.tup [.int .u64 (if a < 18446744073709551616 then (a : Int) else 0), .int .i64 (if a < 18446744073709551616 then 0 else 7)]) [])
  | _ => noC }

def R7 : Env := { ct := fun n => match n with | 88 => some badqC | 89 => some lowestC | 90 => some timesC | 71 => some orderC | 97 => some plusC | 115 => some minusC | 109 => some validC | _ => none, fn := fun _ => none, meth := fun _ _ => none }
theorem R7_ct88 : R7.ct 88 = some badqC := rfl
theorem R7_ct89 : R7.ct 89 = some lowestC := rfl
theorem R7_ct90 : R7.ct 90 = some timesC := rfl
theorem R7_ct71 : R7.ct 71 = some orderC := rfl
theorem R7_ct97 : R7.ct 97 = some plusC := rfl
theorem R7_ct115 : R7.ct 115 = some minusC := rfl
theorem R7_ct109 : R7.ct 109 = some validC := rfl
theorem R7_ok : EnvOk Tryz.prog R7 := by
  refine ⟨fun f c h => ?_, fun f vf h => ?_, (fun _ _ _ h => by cases h), by kernel_rfl⟩
  · simp only [R7] at h
    split at h
    · cases h; exact ⟨badq_ok, Tryz.f88, Tryz.func88, by kernel_rfl, by kernel_rfl⟩
    · cases h; exact ⟨lowest_ok, Tryz.f89, Tryz.func89, by kernel_rfl, by kernel_rfl⟩
    · cases h; exact ⟨times_ok, Tryz.f90, Tryz.func90, by kernel_rfl, by kernel_rfl⟩
    · cases h; exact ⟨order_ok, Tryz.f71, Tryz.func71, by kernel_rfl, by kernel_rfl⟩
    · cases h; exact ⟨plus_ok, Tryz.f97, Tryz.func97, by kernel_rfl, by kernel_rfl⟩
    · cases h; exact ⟨minus_ok, Tryz.f115, Tryz.func115, by kernel_rfl, by kernel_rfl⟩
    · cases h; exact ⟨valid_ok, Tryz.f109, Tryz.func109, by kernel_rfl, by kernel_rfl⟩
    · cases h
  · cases h


theorem qadd_ok : qaddC.ok Tryz.prog 112 := by
  refine contract Tryz.func112 v112_is R7_ok 300 qaddC fun args k h => ?_
  simp only [qaddC] at h
  split at h
  · rename_i neg t1 z1 n1 s1 g1 t2 z2 n2 s2 g2 neg' t1' z1' n1' s1' g1' t2' z2' n2' s2' g2'
    obtain ⟨p, q, ⟨hpp, hqq, hpq⟩, h⟩ := h
    refine ⟨[.agg (encF false p), .agg (encF false q)], ⟨fr_le hpp, fr_le hqq, trivial⟩, ?_⟩
    have hp := hpp.1
    have hq := hqq.1
    clear hpp hqq
    (try dsimp only [v112, R7_ct88, R7_ct89, R7_ct90, R7_ct97, R7_ct115, R7_ct71, badqC, lowestC, timesC, plusC, minusC, orderC, natS, natV, encF, go_sem, Option.bind, Option.map, List.append_nil, Nat.beq, List.cons_append, List.nil_append, List.append_eq, List.map_cons, List.map_nil, ite_self, reduceIte])
    simp only [true_and, and_true, imp_self, implies_true, decide_eq_true_eq, decide_eq_false_iff_not, Nat.reduceAdd, Nat.reduceLeDiff, Bool.not_not, reduceCtorEq, false_imp_iff, Bool.not_eq_true', Bool.not_eq_false', Bool.false_eq_true, and_self, forall_const, ne_eq, not_false_eq_true, Nat.reduceEqDiff, decide_true, decide_false, Bool.and_true, Bool.true_and, Bool.and_false, Bool.false_and, Bool.not_true, Bool.not_false, Bool.or_false, Bool.false_or, Bool.or_true, Bool.true_or, Bool.and_self, Bool.or_self, Bool.false_eq_true, Bool.true_eq_false, false_imp_iff, forall_const, true_and, and_true, implies_true, reduceCtorEq, not_true_eq_false, not_false_eq_true, ite_true, ite_false]
    have ⟨hp0, hp1, hp2⟩ := hp
    have ⟨hq0, hq1, hq2⟩ := hq
    refine ⟨by decide, [p, q], ⟨⟨rfl, rfl, fun k hk => match k, hk with | 0, _ => leXL_self _ | 1, _ => leXL_self _⟩, by simp, list2 hp hq⟩, ?_⟩
    have m1 := @nl_mul (rnum p.1 p.2) (rden q.1 q.2)
    have m2 := @nl_mul (rnum q.1 q.2) (rden p.1 p.2)
    have m3 := @nl_mul (rden p.1 p.2) (rden q.1 q.2)
    have hz := q_add hp0 hq0 (n1 := p.1) (n2 := q.1) rfl
    have hdp : 0 < rden p.1 p.2 * rden q.1 q.2 := Nat.mul_pos (rden_pos hp0) (rden_pos hq0)
    have hM : frOk (addM (decide (p.1 < 0)) (decide (q.1 < 0)) (rnum p.1 p.2 * rden q.1 q.2) (rnum q.1 q.2 * rden p.1 p.2), rden p.1 p.2 * rden q.1 q.2) := frOk_eq (q := addQ p q) hz hpq hdp
    have e := encF_eq (t := true) (p := (addM (decide (p.1 < 0)) (decide (q.1 < 0)) (rnum p.1 p.2 * rden q.1 q.2) (rnum q.1 q.2 * rden p.1 p.2), rden p.1 p.2 * rden q.1 q.2)) (q := addQ p q) hz
    have h : k (.tup [.agg (encF true (addQ p q)), .int .i64 0]) [] := h
    rw [← e] at h
    refine ⟨rnum p.1 p.2, rden q.1 q.2, ⟨padP_nl (by omega), padP_nl (by omega), by omega⟩, rnum q.1 q.2, rden p.1 p.2, ⟨padP_nl (by omega), padP_nl (by omega), by omega⟩, rden p.1 p.2, rden q.1 q.2, ⟨padP_nl (by omega), padP_nl (by omega), by omega⟩, fun hs => ?_, fun hs => ?_⟩
    · have m4 := nl_add (Nat.le_trans m1 (by omega : _ ≤ 1024)) (Nat.le_trans m2 (by omega : _ ≤ 1024))
      have es : addM (decide (p.1 < 0)) (decide (q.1 < 0)) (rnum p.1 p.2 * rden q.1 q.2) (rnum q.1 q.2 * rden p.1 p.2) = nsg (decide (p.1 < 0)) (rnum p.1 p.2 * rden q.1 q.2 + rnum q.1 q.2 * rden p.1 p.2) := by
        unfold addM; rw [if_pos (by simpa using hs)]
      rw [es] at h hM
      exact ⟨_, _, ⟨padP_nl (by omega), padP_nl (by omega), by omega, by omega⟩, _, _, ⟨padP_nl (by omega), rfl, padP_nl (by omega), rfl, hdp, by omega, by omega, hM⟩, by decide, by decide, ans_fr h⟩
    · have hne : ¬ decide (p.1 < 0) = decide (q.1 < 0) := by simpa using hs
      refine ⟨_, _, ⟨padP_nl (by omega), padP_nl (by omega)⟩, fun hc => ?_, fun hc => ?_⟩
      · rw [ord_ge] at hc
        have m4 := nl_mono (Nat.sub_le (rnum p.1 p.2 * rden q.1 q.2) (rnum q.1 q.2 * rden p.1 p.2))
        have es : addM (decide (p.1 < 0)) (decide (q.1 < 0)) (rnum p.1 p.2 * rden q.1 q.2) (rnum q.1 q.2 * rden p.1 p.2) = nsg (decide (p.1 < 0)) (rnum p.1 p.2 * rden q.1 q.2 - rnum q.1 q.2 * rden p.1 p.2) := by
          unfold addM; rw [if_neg hne, if_pos hc]
        rw [es] at h hM
        exact ⟨_, _, ⟨padP_nl (by omega), padP_nl (by omega), hc⟩, _, _, ⟨padP_nl (by omega), rfl, padP_nl (by omega), rfl, hdp, by omega, by omega, hM⟩, by decide, by decide, ans_fr h⟩
      · rw [ord_ge] at hc
        have m4 := nl_mono (Nat.sub_le (rnum q.1 q.2 * rden p.1 p.2) (rnum p.1 p.2 * rden q.1 q.2))
        have es : addM (decide (p.1 < 0)) (decide (q.1 < 0)) (rnum p.1 p.2 * rden q.1 q.2) (rnum q.1 q.2 * rden p.1 p.2) = nsg (decide (q.1 < 0)) (rnum q.1 q.2 * rden p.1 p.2 - rnum p.1 p.2 * rden q.1 q.2) := by
          unfold addM; rw [if_neg hne, if_neg hc]
        rw [es] at h hM
        exact ⟨_, _, ⟨padP_nl (by omega), padP_nl (by omega), by omega⟩, _, _, ⟨padP_nl (by omega), rfl, padP_nl (by omega), rfl, hdp, by omega, by omega, hM⟩, by decide, by decide, ans_fr h⟩
  · exact h.1.elim
theorem turn_eq {p : Fr} (hp : 0 < p.2) : rnum (turnF p).1 (turnF p).2 = rnum p.1 p.2 ∧ rden (turnF p).1 (turnF p).2 = rden p.1 p.2 ∧ (!decide (p.1 < 0) && decide (0 < (nl (rnum p.1 p.2) : Int))) = decide ((turnF p).1 < 0) := by
  have e : (turnF p).1.natAbs = p.1.natAbs := Int.natAbs_neg _
  refine ⟨by unfold rnum fg; rw [e]; rfl, by unfold rden fg; rw [e]; rfl, ?_⟩
  have h1 := rnum_0 (n := p.1) hp
  have h2 := nl_eq0 (a := rnum p.1 p.2)
  have h3 : (turnF p).1 = -p.1 := rfl
  rw [h3, Bool.eq_iff_iff, Bool.and_eq_true, Bool.not_eq_true', decide_eq_false_iff_not, decide_eq_true_eq, decide_eq_true_eq]
  omega
theorem turn_ok {p : Fr} (h : frOk p) : frOk (turnF p) := ⟨h.1, by rw [(turn_eq h.1).1]; exact h.2.1, by rw [(turn_eq h.1).2.1]; exact h.2.2⟩

theorem bad_ok : badnC.ok Tryz.prog 94 := by
  refine contract Tryz.func94 v94_is R7_ok 300 badnC fun args k h => ?_
  simp only [badnC] at h
  split at h
  · rename_i tt z n sz get
    obtain ⟨l, ⟨⟨rfl, rfl, hg⟩, hmax, hok⟩, h⟩ := h
    refine ⟨[.vs tt z l.length 1 (fun k => encN (l.getD k default))], by simpa [leL, le] using hg, ?_⟩
    (try dsimp only [v94, go_sem, Option.bind, Option.map, List.append_nil, Nat.beq, List.cons_append, List.nil_append, List.append_eq, List.map_cons, List.map_nil, ite_self, reduceIte])
    (try simp only [true_and, and_true, imp_self, implies_true, decide_eq_true_eq, decide_eq_false_iff_not, Nat.reduceAdd, Nat.reduceLeDiff, Bool.not_not, reduceCtorEq, false_imp_iff, Bool.not_eq_true', Bool.not_eq_false', Bool.false_eq_true, and_self, forall_const, ne_eq, not_false_eq_true, Nat.reduceEqDiff])
    refine Loop.keep [0, 2] Nat (fun i => [(3, .int .i64 i)]) (fun _ => []) [] (fun i => i ≤ l.length) (fun i => l.length - i) ?_ ?_
    · refine ⟨0, by omega, ?_⟩
      (try dsimp only [go_sem, Option.bind, Option.map, List.append_nil, Nat.beq, List.cons_append, List.nil_append, List.append_eq, List.map_cons, List.map_nil, ite_self, reduceIte])
      simp only [leS_mk, leL_cons, leL_nil, le_junk, le_int, le_bool, le_nil, leLL_nil, leLL_cons, leH_cons, leH_nil, leH1_box, leH1_own, leH1_gone, le_vs, le_agg, le_tup, le_ptr, le_own, le_xp, le_fn, le_opt, le_val, le_elem, le_nil_own, le_nil_vs, leH_ghost, leL_chunk, leXL_id, bnd_int, bnd_bool, bnd_val, bnd_nil, bnd_junk, bnd_vs, bnd_xp, bnd_agg, bnd_tup, bnd_ptr, bnd_own, bnd_elem, bnd_fn, bnd_iface, bnd_opt, bndL_nil, bndL_cons, lenH_cons, lenH_nil, imp_self, implies_true, true_and, and_true] <;> simp
    · rintro i hi
      (try dsimp only [encN, natV, Int.toNat_natCast, go_sem, Option.bind, Option.map, List.append_nil, Nat.beq, List.cons_append, List.nil_append, List.append_eq, List.map_cons, List.map_nil, ite_self, reduceIte])
      (try simp only [true_and, and_true, imp_self, implies_true, decide_eq_true_eq, decide_eq_false_iff_not, Nat.reduceAdd, Nat.reduceLeDiff, Bool.not_not, reduceCtorEq, false_imp_iff, Bool.not_eq_true', Bool.not_eq_false', Bool.false_eq_true, and_self, forall_const, ne_eq, not_false_eq_true, Nat.reduceEqDiff])
      refine ⟨fun hlt => ?_, fun hge => ?_⟩
      · have hl1 := hok _ (getD_mem (by omega : i < l.length))
        refine ⟨⟨by omega, by omega⟩, fun hb => by omega, fun _ => ⟨i + 1, by omega, by omega, ?_⟩⟩
        rw [w_succ (n := l.length) (by omega) (by omega)]
        simp only [leS_mk, leL_cons, leL_nil, le_junk, le_int, le_bool, le_nil, leLL_nil, leLL_cons, leH_cons, leH_nil, leH1_box, leH1_own, leH1_gone, le_vs, le_agg, le_tup, le_ptr, le_own, le_xp, le_fn, le_opt, le_val, le_elem, le_nil_own, le_nil_vs, leH_ghost, leL_chunk, leXL_id, bnd_int, bnd_bool, bnd_val, bnd_nil, bnd_junk, bnd_vs, bnd_xp, bnd_agg, bnd_tup, bnd_ptr, bnd_own, bnd_elem, bnd_fn, bnd_iface, bnd_opt, bndL_nil, bndL_cons, lenH_cons, lenH_nil, imp_self, implies_true, true_and, and_true] <;> simp
      · refine Loop.keep [0, 3] Nat (fun i => [(4, .int .i64 i)]) (fun _ => []) [] (fun i => i ≤ l.length) (fun i => l.length - i) ?_ ?_
        · refine ⟨0, by omega, ?_⟩
          (try dsimp only [go_sem, Option.bind, Option.map, List.append_nil, Nat.beq, List.cons_append, List.nil_append, List.append_eq, List.map_cons, List.map_nil, ite_self, reduceIte])
          simp only [leS_mk, leL_cons, leL_nil, le_junk, le_int, le_bool, le_nil, leLL_nil, leLL_cons, leH_cons, leH_nil, leH1_box, leH1_own, leH1_gone, le_vs, le_agg, le_tup, le_ptr, le_own, le_xp, le_fn, le_opt, le_val, le_elem, le_nil_own, le_nil_vs, leH_ghost, leL_chunk, leXL_id, bnd_int, bnd_bool, bnd_val, bnd_nil, bnd_junk, bnd_vs, bnd_xp, bnd_agg, bnd_tup, bnd_ptr, bnd_own, bnd_elem, bnd_fn, bnd_iface, bnd_opt, bndL_nil, bndL_cons, lenH_cons, lenH_nil, imp_self, implies_true, true_and, and_true] <;> simp
        · rintro i hi
          (try dsimp only [R7_ct109, validC, encN, natV, Int.toNat_natCast, go_sem, Option.bind, Option.map, List.append_nil, Nat.beq, List.cons_append, List.nil_append, List.append_eq, List.map_cons, List.map_nil, ite_self, reduceIte])
          (try simp only [true_and, and_true, imp_self, implies_true, decide_eq_true_eq, decide_eq_false_iff_not, Nat.reduceAdd, Nat.reduceLeDiff, Bool.not_not, reduceCtorEq, false_imp_iff, Bool.not_eq_true', Bool.not_eq_false', Bool.false_eq_true, and_self, forall_const, ne_eq, not_false_eq_true, Nat.reduceEqDiff])
          refine ⟨fun hlt => ?_, fun hge => ans_int h⟩
          have hl1 := hok _ (getD_mem (by omega : i < l.length))
          refine ⟨⟨by omega, by omega⟩, (l.getD i default).2, padP_nl (by omega), fun hb => ?_, fun _ => ⟨i + 1, by omega, by omega, ?_⟩⟩
          · rw [decide_eq_true hl1] at hb; simp at hb
          · rw [w_succ (n := l.length) (by omega) (by omega)]
            simp only [leS_mk, leL_cons, leL_nil, le_junk, le_int, le_bool, le_nil, leLL_nil, leLL_cons, leH_cons, leH_nil, leH1_box, leH1_own, leH1_gone, le_vs, le_agg, le_tup, le_ptr, le_own, le_xp, le_fn, le_opt, le_val, le_elem, le_nil_own, le_nil_vs, leH_ghost, leL_chunk, leXL_id, bnd_int, bnd_bool, bnd_val, bnd_nil, bnd_junk, bnd_vs, bnd_xp, bnd_agg, bnd_tup, bnd_ptr, bnd_own, bnd_elem, bnd_fn, bnd_iface, bnd_opt, bndL_nil, bndL_cons, lenH_cons, lenH_nil, imp_self, implies_true, true_and, and_true] <;> simp
  · exact h.1.elim

def R8 : Env := { ct := fun n => match n with | 94 => some badnC | 100 => some limbC | _ => none, fn := fun _ => none, meth := fun _ _ => none }
theorem R8_ct94 : R8.ct 94 = some badnC := rfl
theorem R8_ct100 : R8.ct 100 = some limbC := rfl
theorem R8_ok : EnvOk Tryz.prog R8 := by
  refine ⟨fun f c h => ?_, fun f vf h => ?_, (fun _ _ _ h => by cases h), by kernel_rfl⟩
  · simp only [R8] at h
    split at h
    · cases h; exact ⟨bad_ok, Tryz.f94, Tryz.func94, by kernel_rfl, by kernel_rfl⟩
    · cases h; exact ⟨limb_ok, Tryz.f100, Tryz.func100, by kernel_rfl, by kernel_rfl⟩
    · cases h
  · cases h


theorem small_ok : smallC.ok Tryz.prog 70 := by
  refine contract Tryz.func70 v70_is R8_ok 300 smallC fun args k h => ?_
  simp only [smallC] at h
  split at h
  · rename_i t1 z1 n sz get
    obtain ⟨a, ⟨⟨rfl, hn, ha, hg⟩, rfl, hn5⟩, h⟩ := h
    refine ⟨[.vs t1 z1 (nl a) 1 (fun k => [.int .u32 (dig a k)])], by simpa [leL, le] using hg, ?_⟩
    (try dsimp only [v70, R8_ct94, badnC, R8_ct100, limbC, go_sem, Option.bind, Option.map, List.append_nil, Nat.beq, List.cons_append, List.nil_append, List.append_eq, List.map_cons, List.map_nil, ite_self, reduceIte])
    simp only [true_and, and_true, imp_self, implies_true, decide_eq_true_eq, decide_eq_false_iff_not, Nat.reduceAdd, Nat.reduceLeDiff, Bool.not_not, reduceCtorEq, false_imp_iff, Bool.not_eq_true', Bool.not_eq_false', Bool.false_eq_true, and_self, forall_const, ne_eq, not_false_eq_true, Nat.reduceEqDiff, decide_true, decide_false, Bool.and_true, Bool.true_and, Bool.and_false, Bool.false_and, Bool.not_true, Bool.not_false, Bool.or_false, Bool.false_or, Bool.or_true, Bool.true_or, Bool.and_self, Bool.or_self, Bool.false_eq_true, Bool.true_eq_false, false_imp_iff, forall_const, true_and, and_true, implies_true, reduceCtorEq, not_true_eq_false, not_false_eq_true, ite_true, ite_false]
    have h2 : nl a ≤ 2 ↔ a < 18446744073709551616 := nl_le (n := 2)
    refine ⟨by decide, [(z1, a)], ⟨⟨rfl, rfl, fun k hk => match k, hk with | 0, _ => leXL_self _⟩, by simp, by simp; exact hn5⟩, fun hc => ⟨fun _ => ?_, (fun hh => by omega)⟩, fun hc => ?_⟩
    · rw [if_neg (by omega), if_neg (by omega)] at h
      exact ans_ii h
    · rw [if_pos (by omega), if_pos (by omega)] at h
      refine ⟨a, ⟨padP_nl (by omega), by decide⟩, a, ⟨padP_nl (by omega), by decide⟩, ?_⟩
      have e0 : dig a (Int.toNat 0) = a % 4294967296 := dig_0 a
      have e1 : dig a (Int.toNat 1) = a / 4294967296 := by
        show dig a 1 = _
        rw [dig_succ, dig_0]; omega
      have e2 : IntKind.u64.wrap (IntKind.u64.wrap (((dig a (Int.toNat 1) : Nat) : Int) * 4294967296) + ((dig a (Int.toNat 0) : Nat) : Int)) = (a : Int) := by
        rw [e0, e1, IntWalk.u64_in (((a / 4294967296 : Nat) : Int) * 4294967296) (by omega), IntWalk.u64_in _ (by omega)]; omega
      rw [e2]
      exact ans_ii h
  · exact h.1.elim
end Go.Proofs.YtngccjllkgpjmaaGreat

/- Words of 64 bits, walked: Len64, LeadingZeros64, Mul64, Div64. -/
/- Words of 64 bits, walked: Len64, LeadingZeros64, Mul64, Div64. -/
set_option linter.all false
namespace Go.Proofs.YtngccjllkgpjmaaGreat
open Go Go.Vx
set_option maxRecDepth 100000
set_option maxHeartbeats 4000000

theorem bitLenAux_eq : ∀ (f x : Nat), x < 2 ^ f → Lib.bitLenAux f x = bitsN x
  | 0, x, h => by
    have : x = 0 := by simpa using h
    subst this; rfl
  | f + 1, x, h => by
    rw [Lib.bitLenAux]
    split
    · rename_i h0; subst h0; rfl
    · rename_i h0
      rw [Nat.pow_succ] at h
      rw [bitLenAux_eq f (x / 2) (by omega), bitsN_half (a := x) (by omega)]; omega
theorem bitLen_eq {x : Nat} (h : x < 18446744073709551616) : Lib.bitLen x = bitsN x := bitLenAux_eq 64 x h

def len64C : Ctr := { alias := false, of := fun l => match l with
  | [.int .u64 x] => .pre (0 ≤ x ∧ x ≤ 18446744073709551615) (.fin (.int .i64 (bitsN x.toNat)) [])
  | _ => noC }
theorem len64_ok : len64C.ok Tryz.prog 116 := by
  intro args vs w F up k hx hc
  simp only [len64C] at hc
  split at hc
  · rename_i x
    obtain ⟨⟨h0, h1⟩, hc⟩ := hc
    cases hx with | cons _ v _ l g1 hx =>
    cases hx
    cases g1
    refine (len64_calls x w h0 h1).mono ?_
    rintro e w' ⟨rfl, rfl⟩
    rw [bitLen_eq (by omega)]
    exact ⟨_, [], _, [], hc, rfl, .x _ _ (.int _ _), hp_nil, Go.RowKit.Below.refl _ _, fun _ => ⟨trivial, trivial⟩⟩
  · exact hc.1.elim

def v111 : VF := { ntmps := 6, res := [.tmp 2], body :=
 (.seq (.region [u1 2 .mov [.cn (.int .i64 0)]])
 (.seq (.region [u1 3 .mov [.tm 0],
 u1 4 (.call 116) [.tm 3],
 u1 5 (.ari .sub) [.cn (.int .i64 64), .tm 4],
 u1 2 .mov [.tm 5]])
 .ret)) }
theorem v111_is : vfunc Tryz.prog Tryz.f111 = some v111 := by kernel_rfl
def v84 : VF := { ntmps := 51, res := [.tmp 4, .tmp 5], body :=
 (.seq (.region [u1 4 .mov [.cn (.int .u64 0)],
 u1 5 .mov [.cn (.int .u64 0)]])
 (.seq (.region [u1 14 .mov [.tm 0],
 u1 15 (.bit .and) [.tm 14, .cn (.int .u64 4294967295)],
 u1 6 .mov [.tm 15]])
 (.seq (.region [u1 16 .mov [.tm 0],
 u1 17 .shr [.tm 16, .cn (.int .u64 32)],
 u1 7 .mov [.tm 17]])
 (.seq (.region [u1 18 .mov [.tm 1],
 u1 19 (.bit .and) [.tm 18, .cn (.int .u64 4294967295)],
 u1 8 .mov [.tm 19]])
 (.seq (.region [u1 20 .mov [.tm 1],
 u1 21 .shr [.tm 20, .cn (.int .u64 32)],
 u1 9 .mov [.tm 21]])
 (.seq (.region [u1 22 .mov [.tm 6],
 u1 23 .mov [.tm 8],
 u1 24 (.ari .mul) [.tm 22, .tm 23],
 u1 10 .mov [.tm 24]])
 (.seq (.region [u1 25 .mov [.tm 7],
 u1 26 .mov [.tm 8],
 u1 27 (.ari .mul) [.tm 25, .tm 26],
 u1 28 .mov [.tm 10],
 u1 29 .shr [.tm 28, .cn (.int .u64 32)],
 u1 30 (.ari .add) [.tm 27, .tm 29],
 u1 11 .mov [.tm 30]])
 (.seq (.region [u1 31 .mov [.tm 11],
 u1 32 (.bit .and) [.tm 31, .cn (.int .u64 4294967295)],
 u1 12 .mov [.tm 32]])
 (.seq (.region [u1 33 .mov [.tm 11],
 u1 34 .shr [.tm 33, .cn (.int .u64 32)],
 u1 13 .mov [.tm 34]])
 (.seq (.region [u1 35 .mov [.tm 12],
 u1 36 .mov [.tm 6],
 u1 37 .mov [.tm 9],
 u1 38 (.ari .mul) [.tm 36, .tm 37],
 u1 39 (.ari .add) [.tm 35, .tm 38],
 u1 12 .mov [.tm 39]])
 (.seq (.region [u1 40 .mov [.tm 7],
 u1 41 .mov [.tm 9],
 u1 42 (.ari .mul) [.tm 40, .tm 41],
 u1 43 .mov [.tm 13],
 u1 44 (.ari .add) [.tm 42, .tm 43],
 u1 45 .mov [.tm 12],
 u1 46 .shr [.tm 45, .cn (.int .u64 32)],
 u1 47 (.ari .add) [.tm 44, .tm 46],
 u1 4 .mov [.tm 47]])
 (.seq (.region [u1 48 .mov [.tm 0],
 u1 49 .mov [.tm 1],
 u1 50 (.ari .mul) [.tm 48, .tm 49],
 u1 5 .mov [.tm 50]])
 .ret)))))))))))) }
theorem v84_is : vfunc Tryz.prog Tryz.f84 = some v84 := by kernel_rfl
def v103 : VF := { ntmps := 135, res := [.tmp 6, .tmp 7], body :=
 (.seq (.region [u1 6 .mov [.cn (.int .u64 0)],
 u1 7 .mov [.cn (.int .u64 0)]])
 (.seq (.seq (.region [u1 19 .mov [.tm 2],
 u1 20 (.cmp .eql) [.tm 19, .cn (.int .u64 0)]])
 (.cond (.tm 20) .stuck
  .skip))
 (.seq (.seq (.region [u1 22 .mov [.tm 2],
 u1 23 .mov [.tm 0],
 u1 24 (.cmp .leq) [.tm 22, .tm 23]])
 (.cond (.tm 24) .stuck
  .skip))
 (.seq (.seq (.region [u1 26 .mov [.tm 0],
 u1 27 (.cmp .eql) [.tm 26, .cn (.int .u64 0)]])
 (.cond (.tm 27) (.seq (.draw [] [w1 28 .mov [.tm 1],
 w1 29 .mov [.tm 2],
 w1 30 .quo [.tm 28, .tm 29],
 w1 31 .mov [.tm 1],
 w1 32 .mov [.tm 2],
 w1 33 .rem [.tm 31, .tm 32],
 w1 6 .mov [.tm 30],
 w1 7 .mov [.tm 33]])
 .ret)
  .skip))
 (.seq (.region [u1 34 .mov [.tm 2],
 u1 35 (.call 111) [.tm 34],
 u1 36 (.conv .u64) [.tm 35],
 u1 8 .mov [.tm 36]])
 (.seq (.region [u1 37 .mov [.tm 2],
 u1 38 .mov [.tm 8],
 u1 39 .shl [.tm 37, .tm 38],
 u1 2 .mov [.tm 39]])
 (.seq (.region [u1 40 .mov [.tm 2],
 u1 41 .shr [.tm 40, .cn (.int .u64 32)],
 u1 9 .mov [.tm 41]])
 (.seq (.region [u1 42 .mov [.tm 2],
 u1 43 (.bit .and) [.tm 42, .cn (.int .u64 4294967295)],
 u1 10 .mov [.tm 43]])
 (.seq (.region [u1 44 .mov [.tm 0],
 u1 45 .mov [.tm 8],
 u1 46 .shl [.tm 44, .tm 45],
 u1 47 .mov [.tm 1],
 u1 48 .mov [.tm 8],
 u1 49 (.ari .sub) [.cn (.int .u64 64), .tm 48],
 u1 50 .shr [.tm 47, .tm 49],
 u1 51 (.bit .or) [.tm 46, .tm 50],
 u1 11 .mov [.tm 51]])
 (.seq (.region [u1 52 .mov [.tm 1],
 u1 53 .mov [.tm 8],
 u1 54 .shl [.tm 52, .tm 53],
 u1 12 .mov [.tm 54]])
 (.seq (.region [u1 55 .mov [.tm 12],
 u1 56 .shr [.tm 55, .cn (.int .u64 32)],
 u1 13 .mov [.tm 56]])
 (.seq (.region [u1 57 .mov [.tm 12],
 u1 58 (.bit .and) [.tm 57, .cn (.int .u64 4294967295)],
 u1 14 .mov [.tm 58]])
 (.seq (.region [u1 59 .mov [.tm 11],
 u1 60 .mov [.tm 9],
 u1 61 .quo [.tm 59, .tm 60],
 u1 15 .mov [.tm 61]])
 (.seq (.region [u1 62 .mov [.tm 11],
 u1 63 .mov [.tm 15],
 u1 64 .mov [.tm 9],
 u1 65 (.ari .mul) [.tm 63, .tm 64],
 u1 66 (.ari .sub) [.tm 62, .tm 65],
 u1 16 .mov [.tm 66]])
 (.seq (.block 0 (.loop (.seq (.seq (.region [u1 67 .mov [.tm 15],
 u1 68 (.cmp .geq) [.tm 67, .cn (.int .u64 4294967296)],
 u1 69 .mov [.tm 68],
 u2 70 69 false .mov [.tm 15],
 u2 71 69 false .mov [.tm 10],
 u2 72 69 false (.ari .mul) [.tm 70, .tm 71],
 u2 73 69 false .mov [.tm 16],
 u2 74 69 false (.ari .mul) [.cn (.int .u64 4294967296), .tm 73],
 u2 75 69 false .mov [.tm 13],
 u2 76 69 false (.ari .add) [.tm 74, .tm 75],
 u2 77 69 false (.cmp .gtr) [.tm 72, .tm 76],
 u1 78 .or [.tm 69, .tm 77]])
 (.cond (.tm 78) .skip
  (.exit 0)))
 (.block 1 (.seq (.region [u1 79 .mov [.tm 15],
 u1 80 (.ari .sub) [.tm 79, .cn (.int .u64 1)],
 u1 15 .mov [.tm 80]])
 (.seq (.region [u1 81 .mov [.tm 16],
 u1 82 .mov [.tm 9],
 u1 83 (.ari .add) [.tm 81, .tm 82],
 u1 16 .mov [.tm 83]])
 (.seq (.region [u1 84 .mov [.tm 16],
 u1 85 (.cmp .geq) [.tm 84, .cn (.int .u64 4294967296)]])
 (.cond (.tm 85) (.exit 0)
  .skip))))))))
 (.seq (.region [u1 86 .mov [.tm 11],
 u1 87 (.ari .mul) [.tm 86, .cn (.int .u64 4294967296)],
 u1 88 .mov [.tm 13],
 u1 89 (.ari .add) [.tm 87, .tm 88],
 u1 90 .mov [.tm 15],
 u1 91 .mov [.tm 2],
 u1 92 (.ari .mul) [.tm 90, .tm 91],
 u1 93 (.ari .sub) [.tm 89, .tm 92],
 u1 17 .mov [.tm 93]])
 (.seq (.region [u1 94 .mov [.tm 17],
 u1 95 .mov [.tm 9],
 u1 96 .quo [.tm 94, .tm 95],
 u1 18 .mov [.tm 96]])
 (.seq (.region [u1 97 .mov [.tm 17],
 u1 98 .mov [.tm 18],
 u1 99 .mov [.tm 9],
 u1 100 (.ari .mul) [.tm 98, .tm 99],
 u1 101 (.ari .sub) [.tm 97, .tm 100],
 u1 16 .mov [.tm 101]])
 (.seq (.block 2 (.loop (.seq (.seq (.region [u1 102 .mov [.tm 18],
 u1 103 (.cmp .geq) [.tm 102, .cn (.int .u64 4294967296)],
 u1 104 .mov [.tm 103],
 u2 105 104 false .mov [.tm 18],
 u2 106 104 false .mov [.tm 10],
 u2 107 104 false (.ari .mul) [.tm 105, .tm 106],
 u2 108 104 false .mov [.tm 16],
 u2 109 104 false (.ari .mul) [.cn (.int .u64 4294967296), .tm 108],
 u2 110 104 false .mov [.tm 14],
 u2 111 104 false (.ari .add) [.tm 109, .tm 110],
 u2 112 104 false (.cmp .gtr) [.tm 107, .tm 111],
 u1 113 .or [.tm 104, .tm 112]])
 (.cond (.tm 113) .skip
  (.exit 2)))
 (.block 3 (.seq (.region [u1 114 .mov [.tm 18],
 u1 115 (.ari .sub) [.tm 114, .cn (.int .u64 1)],
 u1 18 .mov [.tm 115]])
 (.seq (.region [u1 116 .mov [.tm 16],
 u1 117 .mov [.tm 9],
 u1 118 (.ari .add) [.tm 116, .tm 117],
 u1 16 .mov [.tm 118]])
 (.seq (.region [u1 119 .mov [.tm 16],
 u1 120 (.cmp .geq) [.tm 119, .cn (.int .u64 4294967296)]])
 (.cond (.tm 120) (.exit 2)
  .skip))))))))
 (.seq (.region [u1 121 .mov [.tm 15],
 u1 122 (.ari .mul) [.tm 121, .cn (.int .u64 4294967296)],
 u1 123 .mov [.tm 18],
 u1 124 (.ari .add) [.tm 122, .tm 123],
 u1 125 .mov [.tm 17],
 u1 126 (.ari .mul) [.tm 125, .cn (.int .u64 4294967296)],
 u1 127 .mov [.tm 14],
 u1 128 (.ari .add) [.tm 126, .tm 127],
 u1 129 .mov [.tm 18],
 u1 130 .mov [.tm 2],
 u1 131 (.ari .mul) [.tm 129, .tm 130],
 u1 132 (.ari .sub) [.tm 128, .tm 131],
 u1 133 .mov [.tm 8],
 u1 134 .shr [.tm 132, .tm 133],
 u1 6 .mov [.tm 124],
 u1 7 .mov [.tm 134]])
 .ret)))))))))))))))))))) }
theorem v103_is : vfunc Tryz.prog Tryz.f103 = some v103 := by kernel_rfl


def lz64C : Ctr := { alias := false, of := fun l => match l with
  | [.int .u64 x] => .pre (0 ≤ x ∧ x ≤ 18446744073709551615) (.fin (.int .i64 (64 - (bitsN x.toNat : Int))) [])
  | _ => noC }
def mul64C : Ctr := { alias := false, of := fun l => match l with
  | [.int .u64 x, .int .u64 y] => .pre ((0 ≤ x ∧ x ≤ 18446744073709551615) ∧ 0 ≤ y ∧ y ≤ 18446744073709551615) (.fin (.tup [.int .u64 (x * y / 18446744073709551616), .int .u64 (x * y % 18446744073709551616)]) [])
  | _ => noC }
def div64C : Ctr := { alias := false, of := fun l => match l with
  | [.int .u64 h, .int .u64 x, .int .u64 y] => .pre ((0 ≤ x ∧ x ≤ 18446744073709551615) ∧ 0 ≤ h ∧ h < y ∧ y ≤ 18446744073709551615) (.fin (.tup [.int .u64 ((h * 18446744073709551616 + x) / y), .int .u64 ((h * 18446744073709551616 + x) % y)]) [])
  | _ => noC }

def B0 : Env := { ct := fun n => match n with | 116 => some len64C | _ => none, fn := fun _ => none, meth := fun _ _ => none }
theorem B0_ct116 : B0.ct 116 = some len64C := rfl
theorem B0_ok : EnvOk Tryz.prog B0 := by
  refine ⟨fun f c h => ?_, fun f vf h => ?_, (fun _ _ _ h => by cases h), by kernel_rfl⟩
  · simp only [B0] at h
    split at h
    · cases h; exact ⟨len64_ok, Tryz.f116, Tryz.func116, by kernel_rfl, by kernel_rfl⟩
    · cases h
  · cases h

theorem lz64_ok : lz64C.ok Tryz.prog 111 := by
  refine contract Tryz.func111 v111_is B0_ok 100 lz64C fun args k h => ?_
  simp only [lz64C] at h
  split at h
  · rename_i x
    obtain ⟨⟨h0, h1⟩, h⟩ := h
    refine ⟨[.int .u64 x], by simp [leL, le], ?_⟩
    dsimp only [v111, B0_ct116, len64C, r_end, r_end1, r_nil, r_op, r_opg, r_runOp, r_op0, r_yld0, r_yld1, r_y, r_rbeg, r_rend, r_rend1, r_rfrm, r_rfrm1, r_range, r_rangeK, r_rangeE, r_draw, r_drawT, r_tleaf, r_tops, r_tbr, s_chkF, s_chkT, r_dnil, r_dop, r_dopg, r_dplq, r_dplh, r_dq, r_dq0, r_dcl1, r_dcl0, r_dct1, r_dct0, r_dgd, r_dgq1, r_dgq0, r_dctG, r_op1, r_eff, r_eff0, r_call, r_call0, r_inl, r_g, r_gq, r_gc, r_effg, r_effg0, r_callg, r_callg0, r_fin, r_pre, r_imp, r_all, r_ex, r_fing, r_preg, r_exg, r_inBlock, r_inLoop, r_frame, r_frame1, r_skip, r_stuck, r_region, r_seq, r_cond, r_cond1, r_block, r_exit, r_exit1, r_exit2, r_ret, r_loop, s_args0, s_args1, s_xt, s_xc, u0, u1, u2, w0, w1, noOwn, noOwnL, padL, blankL, callee, calleeM, callArgs, eff, ctOf, ctM, ctI, getL, setL, S.put, S.upd, unopts, unopt, unoptsO, unoptsB, lazyO, guardOf, gbool, eMov, eNot, eNeg, eConv, eExt, eLenArr, eLen, eLenStr, eEqb, eEqv, allEq, eNil, negIf, eBool2, eCmp, eAri, ari, eBit, eDiv, eSh, eMinMax, foldMin, foldMax, kEq, pure1, cmpB, VO.quiet, resVals, resVal, tupled, popRet, popTo, cond, Option.bind, Option.map, eNew, eBox, asCells, lenH, snocH, eFieldAddr, eField, eLoad, cellsAt, getH, setH, dropL, takeL, mkAgg, lenL, lenS, shift, shiftL, shiftH, viewN, viewL, view, andT, junks, List.append_nil, Nat.beq, eIdxAddr, eIdxArr, idxN_0, idxN_1, idxN_2, idxN_3, eIndex, eStore, storeAt, spliceL, ones, one, eSlice, eSliceArr, bounds, subLo_z, addLo_z, subLo_one, addLo_one, eMake, eAppend, readS, repL, buildCells, chunk, purgeL, purgeLL, purgeH, purge, refs, refsL, List.cons_append, List.nil_append, wrOps, wrAl, wrDops, wrC, junkAt, putAll, putHs, headOf, headK, keepG, List.append_eq, headX, VO.isAppend, chkG, chkA, napP, napB, there, wrDtr, chkP, apartP, apartB, blk, strip, runAl, AL.ho, yld, putPs, lenN, findR, notRound, jumpK, jumpPT, jcode, List.map_cons, List.map_nil, ite_self, reduceIte]
    simp only [true_and, and_true, imp_self, implies_true, decide_eq_true_eq, decide_eq_false_iff_not, Nat.reduceAdd, Nat.reduceLeDiff, Bool.not_not, reduceCtorEq, false_imp_iff, Bool.not_eq_true', Bool.not_eq_false', Bool.false_eq_true, and_self, forall_const, ne_eq, not_false_eq_true, Nat.reduceEqDiff]
    refine ⟨⟨h0, h1⟩, ans_int ?_⟩
    have : bitsN x.toNat ≤ 64 := bitsN_le.2 (by have : (2 : Nat) ^ 64 = 18446744073709551616 := rfl; omega)
    rw [IntWalk.i64_in _ (by omega)]
    exact h
  · exact h.1.elim

theorem mul64_ok : mul64C.ok Tryz.prog 84 := by
  refine contract Tryz.func84 v84_is B0_ok 200 mul64C fun args k h => ?_
  simp only [mul64C] at h
  split at h
  · rename_i x y
    obtain ⟨⟨⟨h0, h1⟩, h2, h3⟩, h⟩ := h
    obtain ⟨x, rfl⟩ := Int.eq_ofNat_of_zero_le h0
    obtain ⟨y, rfl⟩ := Int.eq_ofNat_of_zero_le h2
    refine ⟨[.int .u64 x, .int .u64 y], by simp [leL, le], ?_⟩
    dsimp only [v84, bitI, r_end, r_end1, r_nil, r_op, r_opg, r_runOp, r_op0, r_yld0, r_yld1, r_y, r_rbeg, r_rend, r_rend1, r_rfrm, r_rfrm1, r_range, r_rangeK, r_rangeE, r_draw, r_drawT, r_tleaf, r_tops, r_tbr, s_chkF, s_chkT, r_dnil, r_dop, r_dopg, r_dplq, r_dplh, r_dq, r_dq0, r_dcl1, r_dcl0, r_dct1, r_dct0, r_dgd, r_dgq1, r_dgq0, r_dctG, r_op1, r_eff, r_eff0, r_call, r_call0, r_inl, r_g, r_gq, r_gc, r_effg, r_effg0, r_callg, r_callg0, r_fin, r_pre, r_imp, r_all, r_ex, r_fing, r_preg, r_exg, r_inBlock, r_inLoop, r_frame, r_frame1, r_skip, r_stuck, r_region, r_seq, r_cond, r_cond1, r_block, r_exit, r_exit1, r_exit2, r_ret, r_loop, s_args0, s_args1, s_xt, s_xc, u0, u1, u2, w0, w1, noOwn, noOwnL, padL, blankL, callee, calleeM, callArgs, eff, ctOf, ctM, ctI, getL, setL, S.put, S.upd, unopts, unopt, unoptsO, unoptsB, lazyO, guardOf, gbool, eMov, eNot, eNeg, eConv, eExt, eLenArr, eLen, eLenStr, eEqb, eEqv, allEq, eNil, negIf, eBool2, eCmp, eAri, ari, eBit, eDiv, eSh, eMinMax, foldMin, foldMax, kEq, pure1, cmpB, VO.quiet, resVals, resVal, tupled, popRet, popTo, cond, Option.bind, Option.map, eNew, eBox, asCells, lenH, snocH, eFieldAddr, eField, eLoad, cellsAt, getH, setH, dropL, takeL, mkAgg, lenL, lenS, shift, shiftL, shiftH, viewN, viewL, view, andT, junks, List.append_nil, Nat.beq, eIdxAddr, eIdxArr, idxN_0, idxN_1, idxN_2, idxN_3, eIndex, eStore, storeAt, spliceL, ones, one, eSlice, eSliceArr, bounds, subLo_z, addLo_z, subLo_one, addLo_one, eMake, eAppend, readS, repL, buildCells, chunk, purgeL, purgeLL, purgeH, purge, refs, refsL, List.cons_append, List.nil_append, wrOps, wrAl, wrDops, wrC, junkAt, putAll, putHs, headOf, headK, keepG, List.append_eq, headX, VO.isAppend, chkG, chkA, napP, napB, there, wrDtr, chkP, apartP, apartB, blk, strip, runAl, AL.ho, yld, putPs, lenN, findR, notRound, jumpK, jumpPT, jcode, List.map_cons, List.map_nil, ite_self, reduceIte]
    simp only [true_and, and_true, imp_self, implies_true, decide_eq_true_eq, decide_eq_false_iff_not, Nat.reduceAdd, Nat.reduceLeDiff, Bool.not_not, reduceCtorEq, false_imp_iff, Bool.not_eq_true', Bool.not_eq_false', Bool.false_eq_true, and_self, forall_const, ne_eq, not_false_eq_true, Nat.reduceEqDiff]
    have hx : x < 18446744073709551616 := by omega
    have hy : y < 18446744073709551616 := by omega
    obtain ⟨e, b1, b2, b3, b4, b5, b6, b7, b8⟩ := mul_hi hx hy
    have s32 : ∀ z : Nat, (z : Int).fdiv (2 ^ min (Int.toNat 32) IntKind.u64.bits) = ((z / 4294967296 : Nat) : Int) := fun z => shr_nat (s := 32) (by decide)
    have hm : ∀ z : Nat, z % 4294967296 < 18446744073709551616 := fun z => by omega
    rw [show IntKind.u64.bits = 64 from rfl] at *
    rw [and_mask hx, and_mask hy, s32 x, s32 y, u_mul b1, s32 (x % 4294967296 * (y % 4294967296)), u_mul b2, u_add b3, s32 (x / 4294967296 * (y % 4294967296) + x % 4294967296 * (y % 4294967296) / 4294967296), and_mask b3, u_mul b4, u_add b5, s32, u_mul b6, u_add b7, u_add b8, e, u_mod]
    refine ⟨by decide, by decide, by decide, by decide, by decide, ?_⟩
    have h : k (.tup [.int .u64 ((x : Int) * y / 18446744073709551616), .int .u64 ((x : Int) * y % 18446744073709551616)]) [] := h
    have e2 : ((x * y / 18446744073709551616 : Nat) : Int) = (x : Int) * y / 18446744073709551616 := by
      rw [← Int.natCast_mul]; generalize x * y = z; omega
    rw [e2]
    exact ans_ii h
  · exact h.1.elim
def B2 : Env := { ct := fun n => match n with | 111 => some lz64C | _ => none, fn := fun _ => none, meth := fun _ _ => none }
theorem B2_ct111 : B2.ct 111 = some lz64C := rfl
theorem B2_ok : EnvOk Tryz.prog B2 := by
  refine ⟨fun f c h => ?_, fun f vf h => ?_, (fun _ _ _ h => by cases h), by kernel_rfl⟩
  · simp only [B2] at h
    split at h
    · cases h; exact ⟨lz64_ok, Tryz.f111, Tryz.func111, by kernel_rfl, by kernel_rfl⟩
    · cases h
  · cases h


theorem div64_ok : div64C.ok Tryz.prog 103 := by
  refine contract Tryz.func103 v103_is B2_ok 300 div64C fun args k h => ?_
  simp only [div64C] at h
  split at h
  · rename_i hh x y
    obtain ⟨⟨⟨h0, h1⟩, h2, h3, h4⟩, h⟩ := h
    obtain ⟨x, rfl⟩ := Int.eq_ofNat_of_zero_le h0
    obtain ⟨hh, rfl⟩ := Int.eq_ofNat_of_zero_le h2
    obtain ⟨y, rfl⟩ := Int.eq_ofNat_of_zero_le (by omega : 0 ≤ y)
    refine ⟨[.int .u64 hh, .int .u64 x, .int .u64 y], by simp [leL, le], ?_⟩
    dsimp only [v103, B2_ct111, lz64C, bitI, r_end, r_end1, r_nil, r_op, r_opg, r_runOp, r_op0, r_yld0, r_yld1, r_y, r_rbeg, r_rend, r_rend1, r_rfrm, r_rfrm1, r_range, r_rangeK, r_rangeE, r_draw, r_drawT, r_tleaf, r_tops, r_tbr, s_chkF, s_chkT, r_dnil, r_dop, r_dopg, r_dplq, r_dplh, r_dq, r_dq0, r_dcl1, r_dcl0, r_dct1, r_dct0, r_dgd, r_dgq1, r_dgq0, r_dctG, r_op1, r_eff, r_eff0, r_call, r_call0, r_inl, r_g, r_gq, r_gc, r_effg, r_effg0, r_callg, r_callg0, r_fin, r_pre, r_imp, r_all, r_ex, r_fing, r_preg, r_exg, r_inBlock, r_inLoop, r_frame, r_frame1, r_skip, r_stuck, r_region, r_seq, r_cond, r_cond1, r_block, r_exit, r_exit1, r_exit2, r_ret, r_loop, s_args0, s_args1, s_xt, s_xc, u0, u1, u2, w0, w1, noOwn, noOwnL, padL, blankL, callee, calleeM, callArgs, eff, ctOf, ctM, ctI, getL, setL, S.put, S.upd, unopts, unopt, unoptsO, unoptsB, lazyO, guardOf, gbool, eMov, eNot, eNeg, eConv, eExt, eLenArr, eLen, eLenStr, eEqb, eEqv, allEq, eNil, negIf, eBool2, eCmp, eAri, ari, eBit, eDiv, eSh, eMinMax, foldMin, foldMax, kEq, pure1, cmpB, VO.quiet, resVals, resVal, tupled, popRet, popTo, cond, Option.bind, Option.map, eNew, eBox, asCells, lenH, snocH, eFieldAddr, eField, eLoad, cellsAt, getH, setH, dropL, takeL, mkAgg, lenL, lenS, shift, shiftL, shiftH, viewN, viewL, view, andT, junks, List.append_nil, Nat.beq, eIdxAddr, eIdxArr, idxN_0, idxN_1, idxN_2, idxN_3, eIndex, eStore, storeAt, spliceL, ones, one, eSlice, eSliceArr, bounds, subLo_z, addLo_z, subLo_one, addLo_one, eMake, eAppend, readS, repL, buildCells, chunk, purgeL, purgeLL, purgeH, purge, refs, refsL, List.cons_append, List.nil_append, wrOps, wrAl, wrDops, wrC, junkAt, putAll, putHs, headOf, headK, keepG, List.append_eq, headX, VO.isAppend, chkG, chkA, napP, napB, there, wrDtr, chkP, apartP, apartB, blk, strip, runAl, AL.ho, yld, putPs, lenN, findR, notRound, jumpK, jumpPT, jcode, List.map_cons, List.map_nil, ite_self, reduceIte]
    simp only [true_and, and_true, imp_self, implies_true, decide_eq_true_eq, decide_eq_false_iff_not, Nat.reduceAdd, Nat.reduceLeDiff, Bool.not_not, reduceCtorEq, false_imp_iff, Bool.not_eq_true', Bool.not_eq_false', Bool.false_eq_true, and_self, forall_const, ne_eq, not_false_eq_true, Nat.reduceEqDiff]
    have hx : x < 18446744073709551616 := by omega
    have hy : y < 18446744073709551616 := by omega
    have hlt : hh < y := by omega
    rw [show IntKind.u64.bits = 64 from rfl] at *
    refine ⟨fun hc => by omega, fun _ => ⟨fun hc => by omega, fun _ => ⟨fun hz => ?_, fun hz => ?_⟩⟩⟩
    · obtain rfl : hh = 0 := by omega
      have e1 : (x : Int).tdiv y = ((x / y : Nat) : Int) := IntWalk.up_tdiv rfl rfl
      have e2 : (x : Int).tmod y = ((x % y : Nat) : Int) := IntWalk.up_tmod rfl rfl
      have h : k (.tup [.int .u64 ((((0 : Nat) : Int) * 18446744073709551616 + x) / y), .int .u64 ((((0 : Nat) : Int) * 18446744073709551616 + x) % y)]) [] := h
      have e3 : ((0 : Nat) : Int) * 18446744073709551616 + x = x := by omega
      rw [e3] at h
      rw [e1, e2, u_nat (Nat.lt_of_le_of_lt (Nat.div_le_self _ _) hx)]
      refine ⟨by omega, by omega, ?_⟩
      exact ans_ii h
    · obtain ⟨s, hs⟩ : ∃ s, s = 64 - bitsN y := ⟨_, rfl⟩
      obtain ⟨f1, f2, f3⟩ := norm_facts hy (by omega)
      rw [← hs] at f2 f3
      have hs64 : s ≤ 64 := by omega
      obtain ⟨g1, g2, g3⟩ := hi_shift (h := hh) hs64 hx
      have hsh : hh * 2 ^ s < y * 2 ^ s := Nat.mul_lt_mul_of_pos_right hlt (p2_pos s)
      have es : IntKind.u64.wrap (64 - (bitsN ((y : Int)).toNat : Int)) = (s : Int) := by
        rw [Int.toNat_natCast, IntWalk.u64_in _ (by omega)]; omega
      have es2 : IntKind.u64.wrap (64 - (s : Int)) = ((64 - s : Nat) : Int) := by rw [IntWalk.u64_in _ (by omega)]; omega
      have sY := shl_nat hs64 f3
      have sH := shl_nat hs64 (Nat.lt_trans hsh f3)
      have sX1 := shr_nat (x := x) (s := 64 - s) (by omega)
      have hxs : x / 2 ^ (64 - s) < 18446744073709551616 := Nat.lt_of_le_of_lt (Nat.div_le_self _ _) hx
      have sO := or_nat6 (Nat.lt_trans hsh f3) hxs
      rw [g1] at sO
      have sX : IntKind.u64.wrap ((x : Int) * 2 ^ min s 64) = ((x * 2 ^ s % 18446744073709551616 : Nat) : Int) := by
        rw [Nat.min_eq_left hs64]
        have : (x : Int) * 2 ^ s = ((x * 2 ^ s : Nat) : Int) := by simp
        rw [this, u_modn]
      have s32 : ∀ z : Nat, (z : Int).fdiv (2 ^ min (Int.toNat 32) 64) = ((z / 4294967296 : Nat) : Int) := fun z => shr_nat (s := 32) (by decide)
      have mY := and_mask f3
      have mX := and_mask (Nat.mod_lt (x * 2 ^ s) (show 0 < 18446744073709551616 by omega))
      rw [es]
      simp only [Int.toNat_natCast, es2, sY, sH, sX1, sO, sX, s32, mY, mX]
      have hN := g3
      generalize hY : y * 2 ^ s = Y at f2 f3 hsh ⊢
      generalize hX : x * 2 ^ s % 18446744073709551616 = X at hN ⊢
      generalize hA : hh * 2 ^ s + x / 2 ^ (64 - s) = A at hN ⊢
      have hX6 : X < 18446744073709551616 := by rw [← hX]; exact Nat.mod_lt _ (show 0 < 18446744073709551616 by omega)
      have hAY : A < Y := by
        have : hh * 2 ^ s + 2 ^ s ≤ y * 2 ^ s := by rw [← Nat.succ_mul]; exact Nat.mul_le_mul_right _ hlt
        omega
      clear mY mX sX sO sX1 sH sY es es2 g1 g2 g3
      have y1a : 2147483648 ≤ Y / 4294967296 := by omega
      have y1b : Y / 4294967296 < 4294967296 := by omega
      have y1p : 0 < Y / 4294967296 := by omega
      have eY : Y / 4294967296 * 4294967296 + Y % 4294967296 = Y := Nat.div_add_mod' Y 4294967296
      have y0b : Y % 4294967296 < 4294967296 := by omega
      have u1b : X / 4294967296 < 4294967296 := by omega
      have u0b : X % 4294967296 < 4294967296 := by omega
      have hYp : 0 < Y := by omega
      have start := fun (a u : Nat) (ha : a < Y) (hu : u < 4294967296) => (dig_start (u := u) y1a y0b (by rw [eY]; exact ha) hu).resolve_right (by omega)
      have eq0 : ∀ a : Nat, a < Y → IntKind.u64.wrap ((a : Int).tdiv ((Y / 4294967296 : Nat) : Int)) = ((a / (Y / 4294967296) : Nat) : Int) := fun a ha => by
        have : (a : Int).tdiv ((Y / 4294967296 : Nat) : Int) = ((a / (Y / 4294967296) : Nat) : Int) := IntWalk.up_tdiv rfl rfl
        rw [this]; exact u_nat (Nat.lt_of_le_of_lt (Nat.div_le_self _ _) (Nat.lt_trans ha f3))
      have er0 : ∀ a : Nat, a < Y → IntKind.u64.wrap ((a : Int) - IntKind.u64.wrap (((a / (Y / 4294967296) : Nat) : Int) * ((Y / 4294967296 : Nat) : Int))) = ((a - a / (Y / 4294967296) * (Y / 4294967296) : Nat) : Int) := fun a ha => by
        have hle : a / (Y / 4294967296) * (Y / 4294967296) ≤ a := Nat.div_mul_le_self _ _
        have h6 := Nat.lt_trans ha f3
        rw [u_mul (Nat.lt_of_le_of_lt hle h6), u_sub hle h6]
      -- the word behind a digit
      have eR : ∀ a u q : Nat, u < 4294967296 → q = (a * 4294967296 + u) / Y → IntKind.u64.wrap (IntKind.u64.wrap (IntKind.u64.wrap ((a : Int) * 4294967296) + (u : Int)) - IntKind.u64.wrap ((q : Int) * (Y : Int))) = (((a * 4294967296 + u) % Y : Nat) : Int) := fun a u q hu hq => by
        have e := Nat.div_add_mod (a * 4294967296 + u) Y
        have hm := Nat.mod_lt (a * 4294967296 + u) hYp
        rw [← hq, Nat.mul_comm] at e
        have e2 : ((q * Y : Nat) : Int) = (q : Int) * (Y : Int) := Int.natCast_mul _ _
        generalize (a * 4294967296 + u) % Y = m at *
        simp only [u_mod]
        rw [← e2]
        generalize q * Y = t at *
        omega
      -- the condition of a loop
      have cnd : ∀ (q r u : Nat), r < 4294967296 → u < 4294967296 → ((decide (4294967296 ≤ (q : Int)) || decide (IntKind.u64.wrap (IntKind.u64.wrap (4294967296 * (r : Int)) + (u : Int)) < IntKind.u64.wrap ((q : Int) * ((Y % 4294967296 : Nat) : Int)))) = true ↔ 4294967296 ≤ q ∨ 4294967296 * r + u < q * (Y % 4294967296)) := fun q r u hr hu => by
        rcases Nat.lt_or_ge q 4294967296 with hq | hq
        · have hm : q * (Y % 4294967296) ≤ 4294967295 * 4294967295 := Nat.mul_le_mul (by omega) (by omega)
          rw [u_mul (by omega), IntWalk.u64_in (4294967296 * (r : Int)) (by omega), IntWalk.u64_in _ (by omega), Bool.or_eq_true, decide_eq_true_eq, decide_eq_true_eq]
          generalize q * (Y % 4294967296) = t
          omega
        · simp [hq]; omega
      have sY1 : ∀ r : Nat, r < 4294967296 → IntKind.u64.wrap ((r : Int) + ((Y / 4294967296 : Nat) : Int)) = ((r + Y / 4294967296 : Nat) : Int) := fun r hr => u_add (by omega)
      have dY : ∀ q : Nat, 0 < q → q ≤ 4294967297 → IntKind.u64.wrap ((q : Int) - 1) = ((q - 1 : Nat) : Int) := fun q h1 h2 => by rw [IntWalk.u64_in _ (by omega)]; omega
      rw [eq0 A hAY, er0 A hAY]
      refine ⟨⟨by omega, by omega⟩, by omega, by decide, by omega, by omega, by omega, by decide, by omega, ?_⟩
      refine Loop.keep [2, 5, 0, 0, 0, 1, 0] (Nat × Nat) (fun x => [(15, .int .u64 x.1), (16, .int .u64 x.2)]) (fun _ => []) [] (fun x => DigInv (Y / 4294967296) (Y % 4294967296) A (X / 4294967296) x.1 x.2 ∧ x.2 < 4294967296) (fun x => x.1) ?_ ?_
      · refine ⟨(A / (Y / 4294967296), A - A / (Y / 4294967296) * (Y / 4294967296)), start A (X / 4294967296) hAY u1b, ?_⟩
        dsimp only [r_end, r_end1, r_nil, r_op, r_opg, r_runOp, r_op0, r_yld0, r_yld1, r_y, r_rbeg, r_rend, r_rend1, r_rfrm, r_rfrm1, r_range, r_rangeK, r_rangeE, r_draw, r_drawT, r_tleaf, r_tops, r_tbr, s_chkF, s_chkT, r_dnil, r_dop, r_dopg, r_dplq, r_dplh, r_dq, r_dq0, r_dcl1, r_dcl0, r_dct1, r_dct0, r_dgd, r_dgq1, r_dgq0, r_dctG, r_op1, r_eff, r_eff0, r_call, r_call0, r_inl, r_g, r_gq, r_gc, r_effg, r_effg0, r_callg, r_callg0, r_fin, r_pre, r_imp, r_all, r_ex, r_fing, r_preg, r_exg, r_inBlock, r_inLoop, r_frame, r_frame1, r_skip, r_stuck, r_region, r_seq, r_cond, r_cond1, r_block, r_exit, r_exit1, r_exit2, r_ret, r_loop, s_args0, s_args1, s_xt, s_xc, u0, u1, u2, w0, w1, noOwn, noOwnL, padL, blankL, callee, calleeM, callArgs, eff, ctOf, ctM, ctI, getL, setL, S.put, S.upd, unopts, unopt, unoptsO, unoptsB, lazyO, guardOf, gbool, eMov, eNot, eNeg, eConv, eExt, eLenArr, eLen, eLenStr, eEqb, eEqv, allEq, eNil, negIf, eBool2, eCmp, eAri, ari, eBit, eDiv, eSh, eMinMax, foldMin, foldMax, kEq, pure1, cmpB, VO.quiet, resVals, resVal, tupled, popRet, popTo, cond, Option.bind, Option.map, eNew, eBox, asCells, lenH, snocH, eFieldAddr, eField, eLoad, cellsAt, getH, setH, dropL, takeL, mkAgg, lenL, lenS, shift, shiftL, shiftH, viewN, viewL, view, andT, junks, List.append_nil, Nat.beq, eIdxAddr, eIdxArr, idxN_0, idxN_1, idxN_2, idxN_3, eIndex, eStore, storeAt, spliceL, ones, one, eSlice, eSliceArr, bounds, subLo_z, addLo_z, subLo_one, addLo_one, eMake, eAppend, readS, repL, buildCells, chunk, purgeL, purgeLL, purgeH, purge, refs, refsL, List.cons_append, List.nil_append, wrOps, wrAl, wrDops, wrC, junkAt, putAll, putHs, headOf, headK, keepG, List.append_eq, headX, VO.isAppend, chkG, chkA, napP, napB, there, wrDtr, chkP, apartP, apartB, blk, strip, runAl, AL.ho, yld, putPs, lenN, findR, notRound, jumpK, jumpPT, jcode, List.map_cons, List.map_nil, ite_self, reduceIte]
        simp only [leS_mk, leL_cons, leL_nil, le_junk, le_int, le_bool, le_nil, leLL_nil, leLL_cons, leH_cons, leH_nil, leH1_box, leH1_own, leH1_gone, le_vs, le_agg, le_tup, le_ptr, le_own, le_xp, le_fn, le_opt, le_val, le_elem, le_nil_own, le_nil_vs, leH_ghost, leL_chunk, leXL_id, bnd_int, bnd_bool, bnd_val, bnd_nil, bnd_junk, bnd_vs, bnd_xp, bnd_agg, bnd_tup, bnd_ptr, bnd_own, bnd_elem, bnd_fn, bnd_iface, bnd_opt, bndL_nil, bndL_cons, lenH_cons, lenH_nil, imp_self, implies_true, true_and, and_true]
      · rintro ⟨q, r⟩ ⟨hd, hr⟩
        dsimp only at hd hr
        dsimp only [r_end, r_end1, r_nil, r_op, r_opg, r_runOp, r_op0, r_yld0, r_yld1, r_y, r_rbeg, r_rend, r_rend1, r_rfrm, r_rfrm1, r_range, r_rangeK, r_rangeE, r_draw, r_drawT, r_tleaf, r_tops, r_tbr, s_chkF, s_chkT, r_dnil, r_dop, r_dopg, r_dplq, r_dplh, r_dq, r_dq0, r_dcl1, r_dcl0, r_dct1, r_dct0, r_dgd, r_dgq1, r_dgq0, r_dctG, r_op1, r_eff, r_eff0, r_call, r_call0, r_inl, r_g, r_gq, r_gc, r_effg, r_effg0, r_callg, r_callg0, r_fin, r_pre, r_imp, r_all, r_ex, r_fing, r_preg, r_exg, r_inBlock, r_inLoop, r_frame, r_frame1, r_skip, r_stuck, r_region, r_seq, r_cond, r_cond1, r_block, r_exit, r_exit1, r_exit2, r_ret, r_loop, s_args0, s_args1, s_xt, s_xc, u0, u1, u2, w0, w1, noOwn, noOwnL, padL, blankL, callee, calleeM, callArgs, eff, ctOf, ctM, ctI, getL, setL, S.put, S.upd, unopts, unopt, unoptsO, unoptsB, lazyO, guardOf, gbool, eMov, eNot, eNeg, eConv, eExt, eLenArr, eLen, eLenStr, eEqb, eEqv, allEq, eNil, negIf, eBool2, eCmp, eAri, ari, eBit, eDiv, eSh, eMinMax, foldMin, foldMax, kEq, pure1, cmpB, VO.quiet, resVals, resVal, tupled, popRet, popTo, cond, Option.bind, Option.map, eNew, eBox, asCells, lenH, snocH, eFieldAddr, eField, eLoad, cellsAt, getH, setH, dropL, takeL, mkAgg, lenL, lenS, shift, shiftL, shiftH, viewN, viewL, view, andT, junks, List.append_nil, Nat.beq, eIdxAddr, eIdxArr, idxN_0, idxN_1, idxN_2, idxN_3, eIndex, eStore, storeAt, spliceL, ones, one, eSlice, eSliceArr, bounds, subLo_z, addLo_z, subLo_one, addLo_one, eMake, eAppend, readS, repL, buildCells, chunk, purgeL, purgeLL, purgeH, purge, refs, refsL, List.cons_append, List.nil_append, wrOps, wrAl, wrDops, wrC, junkAt, putAll, putHs, headOf, headK, keepG, List.append_eq, headX, VO.isAppend, chkG, chkA, napP, napB, there, wrDtr, chkP, apartP, apartB, blk, strip, runAl, AL.ho, yld, putPs, lenN, findR, notRound, jumpK, jumpPT, jcode, List.map_cons, List.map_nil, ite_self, reduceIte]
        simp only [true_and, and_true, imp_self, implies_true, decide_eq_true_eq, decide_eq_false_iff_not, Nat.reduceAdd, Nat.reduceLeDiff, Bool.not_not, reduceCtorEq, false_imp_iff, Bool.not_eq_true', Bool.not_eq_false', Bool.false_eq_true, and_self, forall_const, ne_eq, not_false_eq_true, Nat.reduceEqDiff]
        rw [cnd q r _ hr u1b]
        have hql := hd.le
        refine ⟨fun hc => ?_, fun hc => ?_⟩
        · obtain ⟨hq0, hn⟩ := dig_next hd y1p (by rw [eY]; exact hAY) u1b hc
          rw [dY q hq0 hql, sY1 r hr]
          refine ⟨fun hb => ⟨by omega, ?_⟩, fun hb => ⟨(q - 1, r + Y / 4294967296), ⟨hn, by simp only; omega⟩, by simp only; omega, ?_⟩⟩
          · have hQ1 := dig_break hn y1p y0b (by omega) (by omega)
            rw [eY] at hQ1
            generalize q - 1 = Q1 at hQ1 ⊢
            have hR1Y : (A * 4294967296 + X / 4294967296) % Y < Y := Nat.mod_lt _ hYp
            rw [eR A _ Q1 u1b hQ1]
            generalize hR1 : (A * 4294967296 + X / 4294967296) % Y = R1 at hR1Y ⊢
            rw [eq0 R1 hR1Y, er0 R1 hR1Y]
            refine Loop.keep [2, 5, 0, 0, 3, 0, 1] (Nat × Nat) (fun x => [(18, .int .u64 x.1), (16, .int .u64 x.2)]) (fun _ => []) [] (fun x => DigInv (Y / 4294967296) (Y % 4294967296) R1 (X % 4294967296) x.1 x.2 ∧ x.2 < 4294967296) (fun x => x.1) ?_ ?_
            · refine ⟨(R1 / (Y / 4294967296), R1 - R1 / (Y / 4294967296) * (Y / 4294967296)), start R1 (X % 4294967296) hR1Y u0b, ?_⟩
              dsimp only [r_end, r_end1, r_nil, r_op, r_opg, r_runOp, r_op0, r_yld0, r_yld1, r_y, r_rbeg, r_rend, r_rend1, r_rfrm, r_rfrm1, r_range, r_rangeK, r_rangeE, r_draw, r_drawT, r_tleaf, r_tops, r_tbr, s_chkF, s_chkT, r_dnil, r_dop, r_dopg, r_dplq, r_dplh, r_dq, r_dq0, r_dcl1, r_dcl0, r_dct1, r_dct0, r_dgd, r_dgq1, r_dgq0, r_dctG, r_op1, r_eff, r_eff0, r_call, r_call0, r_inl, r_g, r_gq, r_gc, r_effg, r_effg0, r_callg, r_callg0, r_fin, r_pre, r_imp, r_all, r_ex, r_fing, r_preg, r_exg, r_inBlock, r_inLoop, r_frame, r_frame1, r_skip, r_stuck, r_region, r_seq, r_cond, r_cond1, r_block, r_exit, r_exit1, r_exit2, r_ret, r_loop, s_args0, s_args1, s_xt, s_xc, u0, u1, u2, w0, w1, noOwn, noOwnL, padL, blankL, callee, calleeM, callArgs, eff, ctOf, ctM, ctI, getL, setL, S.put, S.upd, unopts, unopt, unoptsO, unoptsB, lazyO, guardOf, gbool, eMov, eNot, eNeg, eConv, eExt, eLenArr, eLen, eLenStr, eEqb, eEqv, allEq, eNil, negIf, eBool2, eCmp, eAri, ari, eBit, eDiv, eSh, eMinMax, foldMin, foldMax, kEq, pure1, cmpB, VO.quiet, resVals, resVal, tupled, popRet, popTo, cond, Option.bind, Option.map, eNew, eBox, asCells, lenH, snocH, eFieldAddr, eField, eLoad, cellsAt, getH, setH, dropL, takeL, mkAgg, lenL, lenS, shift, shiftL, shiftH, viewN, viewL, view, andT, junks, List.append_nil, Nat.beq, eIdxAddr, eIdxArr, idxN_0, idxN_1, idxN_2, idxN_3, eIndex, eStore, storeAt, spliceL, ones, one, eSlice, eSliceArr, bounds, subLo_z, addLo_z, subLo_one, addLo_one, eMake, eAppend, readS, repL, buildCells, chunk, purgeL, purgeLL, purgeH, purge, refs, refsL, List.cons_append, List.nil_append, wrOps, wrAl, wrDops, wrC, junkAt, putAll, putHs, headOf, headK, keepG, List.append_eq, headX, VO.isAppend, chkG, chkA, napP, napB, there, wrDtr, chkP, apartP, apartB, blk, strip, runAl, AL.ho, yld, putPs, lenN, findR, notRound, jumpK, jumpPT, jcode, List.map_cons, List.map_nil, ite_self, reduceIte]
              simp only [leS_mk, leL_cons, leL_nil, le_junk, le_int, le_bool, le_nil, leLL_nil, leLL_cons, leH_cons, leH_nil, leH1_box, leH1_own, leH1_gone, le_vs, le_agg, le_tup, le_ptr, le_own, le_xp, le_fn, le_opt, le_val, le_elem, le_nil_own, le_nil_vs, leH_ghost, leL_chunk, leXL_id, bnd_int, bnd_bool, bnd_val, bnd_nil, bnd_junk, bnd_vs, bnd_xp, bnd_agg, bnd_tup, bnd_ptr, bnd_own, bnd_elem, bnd_fn, bnd_iface, bnd_opt, bndL_nil, bndL_cons, lenH_cons, lenH_nil, imp_self, implies_true, true_and, and_true]
            · rintro ⟨q, r⟩ ⟨hd, hr⟩
              dsimp only at hd hr
              dsimp only [r_end, r_end1, r_nil, r_op, r_opg, r_runOp, r_op0, r_yld0, r_yld1, r_y, r_rbeg, r_rend, r_rend1, r_rfrm, r_rfrm1, r_range, r_rangeK, r_rangeE, r_draw, r_drawT, r_tleaf, r_tops, r_tbr, s_chkF, s_chkT, r_dnil, r_dop, r_dopg, r_dplq, r_dplh, r_dq, r_dq0, r_dcl1, r_dcl0, r_dct1, r_dct0, r_dgd, r_dgq1, r_dgq0, r_dctG, r_op1, r_eff, r_eff0, r_call, r_call0, r_inl, r_g, r_gq, r_gc, r_effg, r_effg0, r_callg, r_callg0, r_fin, r_pre, r_imp, r_all, r_ex, r_fing, r_preg, r_exg, r_inBlock, r_inLoop, r_frame, r_frame1, r_skip, r_stuck, r_region, r_seq, r_cond, r_cond1, r_block, r_exit, r_exit1, r_exit2, r_ret, r_loop, s_args0, s_args1, s_xt, s_xc, u0, u1, u2, w0, w1, noOwn, noOwnL, padL, blankL, callee, calleeM, callArgs, eff, ctOf, ctM, ctI, getL, setL, S.put, S.upd, unopts, unopt, unoptsO, unoptsB, lazyO, guardOf, gbool, eMov, eNot, eNeg, eConv, eExt, eLenArr, eLen, eLenStr, eEqb, eEqv, allEq, eNil, negIf, eBool2, eCmp, eAri, ari, eBit, eDiv, eSh, eMinMax, foldMin, foldMax, kEq, pure1, cmpB, VO.quiet, resVals, resVal, tupled, popRet, popTo, cond, Option.bind, Option.map, eNew, eBox, asCells, lenH, snocH, eFieldAddr, eField, eLoad, cellsAt, getH, setH, dropL, takeL, mkAgg, lenL, lenS, shift, shiftL, shiftH, viewN, viewL, view, andT, junks, List.append_nil, Nat.beq, eIdxAddr, eIdxArr, idxN_0, idxN_1, idxN_2, idxN_3, eIndex, eStore, storeAt, spliceL, ones, one, eSlice, eSliceArr, bounds, subLo_z, addLo_z, subLo_one, addLo_one, eMake, eAppend, readS, repL, buildCells, chunk, purgeL, purgeLL, purgeH, purge, refs, refsL, List.cons_append, List.nil_append, wrOps, wrAl, wrDops, wrC, junkAt, putAll, putHs, headOf, headK, keepG, List.append_eq, headX, VO.isAppend, chkG, chkA, napP, napB, there, wrDtr, chkP, apartP, apartB, blk, strip, runAl, AL.ho, yld, putPs, lenN, findR, notRound, jumpK, jumpPT, jcode, List.map_cons, List.map_nil, ite_self, reduceIte]
              simp only [true_and, and_true, imp_self, implies_true, decide_eq_true_eq, decide_eq_false_iff_not, Nat.reduceAdd, Nat.reduceLeDiff, Bool.not_not, reduceCtorEq, false_imp_iff, Bool.not_eq_true', Bool.not_eq_false', Bool.false_eq_true, and_self, forall_const, ne_eq, not_false_eq_true, Nat.reduceEqDiff]
              rw [cnd q r _ hr u0b]
              have hql := hd.le
              refine ⟨fun hc => ?_, fun hc => ?_⟩
              · obtain ⟨hq0, hn⟩ := dig_next hd y1p (by rw [eY]; exact hR1Y) u0b hc
                rw [dY q hq0 hql, sY1 r hr]
                refine ⟨fun hb => ?_, fun hb => ⟨(q - 1, r + Y / 4294967296), ⟨hn, by simp only; omega⟩, by simp only; omega, ?_⟩⟩
                · have hQ0 := dig_break hn y1p y0b (by omega) (by omega)
                  rw [eY] at hQ0
                  generalize q - 1 = Q0 at hQ0 ⊢
                  obtain ⟨eT1, eT2⟩ := two_digits hYp hQ1 hR1.symm hQ0
                  have eX : X / 4294967296 * 4294967296 + X % 4294967296 = X := Nat.div_add_mod' X 4294967296
                  rw [eX, hN, ← hY, Nat.mul_div_mul_right _ _ (p2_pos s)] at eT1
                  rw [eX, hN, ← hY, Nat.mul_mod_mul_right] at eT2
                  have hNy : (hh * 18446744073709551616 + x) / y < 18446744073709551616 := by
                    rw [Nat.div_lt_iff_lt_mul (by omega)]; omega
                  rw [Int.toNat_natCast, eR R1 _ Q0 u0b hQ0, show IntKind.u64.bits = 64 from rfl, shr_nat hs64, ← hY, eT2, Nat.mul_div_cancel _ (p2_pos s), IntWalk.u64_in ((Q1 : Int) * 4294967296) (by omega), IntWalk.u64_in _ (by omega)]
                  refine ⟨by omega, ?_⟩
                  have h : k (.tup [.int .u64 (((hh : Int) * 18446744073709551616 + x) / y), .int .u64 (((hh : Int) * 18446744073709551616 + x) % y)]) [] := h
                  have e1 : ((hh : Int) * 18446744073709551616 + x) / y = (Q1 : Int) * 4294967296 + Q0 := by
                    have : ((hh : Int) * 18446744073709551616 + x) / y = (((hh * 18446744073709551616 + x) / y : Nat) : Int) := by
                      rw [Int.natCast_ediv] <;> first | rfl | (congr 1; omega)
                    rw [this, ← eT1]; omega
                  have e2 : ((hh : Int) * 18446744073709551616 + x) % y = (((hh * 18446744073709551616 + x) % y : Nat) : Int) := by
                    rw [Int.natCast_emod] <;> first | rfl | (congr 1; omega)
                  rw [e1, e2] at h
                  exact ans_ii h
                · simp only [leS_mk, leL_cons, leL_nil, le_junk, le_int, le_bool, le_nil, leLL_nil, leLL_cons, leH_cons, leH_nil, leH1_box, leH1_own, leH1_gone, le_vs, le_agg, le_tup, le_ptr, le_own, le_xp, le_fn, le_opt, le_val, le_elem, le_nil_own, le_nil_vs, leH_ghost, leL_chunk, leXL_id, bnd_int, bnd_bool, bnd_val, bnd_nil, bnd_junk, bnd_vs, bnd_xp, bnd_agg, bnd_tup, bnd_ptr, bnd_own, bnd_elem, bnd_fn, bnd_iface, bnd_opt, bndL_nil, bndL_cons, lenH_cons, lenH_nil, imp_self, implies_true, true_and, and_true]
              · have hc : ¬ (4294967296 ≤ q ∨ 4294967296 * r + X % 4294967296 < q * (Y % 4294967296)) := fun hh => by
                  have := (cnd q r _ hr u0b).2 hh
                  rw [hc] at this; cases this
                have hQ0 := dig_end hd y1p (by omega)
                rw [eY] at hQ0
                generalize q = Q0 at hQ0 ⊢
                obtain ⟨eT1, eT2⟩ := two_digits hYp hQ1 hR1.symm hQ0
                have eX : X / 4294967296 * 4294967296 + X % 4294967296 = X := Nat.div_add_mod' X 4294967296
                rw [eX, hN, ← hY, Nat.mul_div_mul_right _ _ (p2_pos s)] at eT1
                rw [eX, hN, ← hY, Nat.mul_mod_mul_right] at eT2
                have hNy : (hh * 18446744073709551616 + x) / y < 18446744073709551616 := by
                  rw [Nat.div_lt_iff_lt_mul (by omega)]; omega
                rw [Int.toNat_natCast, eR R1 _ Q0 u0b hQ0, show IntKind.u64.bits = 64 from rfl, shr_nat hs64, ← hY, eT2, Nat.mul_div_cancel _ (p2_pos s), IntWalk.u64_in ((Q1 : Int) * 4294967296) (by omega), IntWalk.u64_in _ (by omega)]
                refine ⟨by omega, ?_⟩
                have h : k (.tup [.int .u64 (((hh : Int) * 18446744073709551616 + x) / y), .int .u64 (((hh : Int) * 18446744073709551616 + x) % y)]) [] := h
                have e1 : ((hh : Int) * 18446744073709551616 + x) / y = (Q1 : Int) * 4294967296 + Q0 := by
                  have : ((hh : Int) * 18446744073709551616 + x) / y = (((hh * 18446744073709551616 + x) / y : Nat) : Int) := by
                    rw [Int.natCast_ediv] <;> first | rfl | (congr 1; omega)
                  rw [this, ← eT1]; omega
                have e2 : ((hh : Int) * 18446744073709551616 + x) % y = (((hh * 18446744073709551616 + x) % y : Nat) : Int) := by
                  rw [Int.natCast_emod] <;> first | rfl | (congr 1; omega)
                rw [e1, e2] at h
                exact ans_ii h
          · simp only [leS_mk, leL_cons, leL_nil, le_junk, le_int, le_bool, le_nil, leLL_nil, leLL_cons, leH_cons, leH_nil, leH1_box, leH1_own, leH1_gone, le_vs, le_agg, le_tup, le_ptr, le_own, le_xp, le_fn, le_opt, le_val, le_elem, le_nil_own, le_nil_vs, leH_ghost, leL_chunk, leXL_id, bnd_int, bnd_bool, bnd_val, bnd_nil, bnd_junk, bnd_vs, bnd_xp, bnd_agg, bnd_tup, bnd_ptr, bnd_own, bnd_elem, bnd_fn, bnd_iface, bnd_opt, bndL_nil, bndL_cons, lenH_cons, lenH_nil, imp_self, implies_true, true_and, and_true]
        · have hc : ¬ (4294967296 ≤ q ∨ 4294967296 * r + X / 4294967296 < q * (Y % 4294967296)) := fun hh => by
            have := (cnd q r _ hr u1b).2 hh
            rw [hc] at this; cases this
          have hQ1 := dig_end hd y1p (by omega)
          rw [eY] at hQ1
          refine ⟨by omega, ?_⟩
          generalize q = Q1 at hQ1 ⊢
          have hR1Y : (A * 4294967296 + X / 4294967296) % Y < Y := Nat.mod_lt _ hYp
          rw [eR A _ Q1 u1b hQ1]
          generalize hR1 : (A * 4294967296 + X / 4294967296) % Y = R1 at hR1Y ⊢
          rw [eq0 R1 hR1Y, er0 R1 hR1Y]
          refine Loop.keep [2, 5, 0, 0, 3, 0, 1] (Nat × Nat) (fun x => [(18, .int .u64 x.1), (16, .int .u64 x.2)]) (fun _ => []) [] (fun x => DigInv (Y / 4294967296) (Y % 4294967296) R1 (X % 4294967296) x.1 x.2 ∧ x.2 < 4294967296) (fun x => x.1) ?_ ?_
          · refine ⟨(R1 / (Y / 4294967296), R1 - R1 / (Y / 4294967296) * (Y / 4294967296)), start R1 (X % 4294967296) hR1Y u0b, ?_⟩
            dsimp only [r_end, r_end1, r_nil, r_op, r_opg, r_runOp, r_op0, r_yld0, r_yld1, r_y, r_rbeg, r_rend, r_rend1, r_rfrm, r_rfrm1, r_range, r_rangeK, r_rangeE, r_draw, r_drawT, r_tleaf, r_tops, r_tbr, s_chkF, s_chkT, r_dnil, r_dop, r_dopg, r_dplq, r_dplh, r_dq, r_dq0, r_dcl1, r_dcl0, r_dct1, r_dct0, r_dgd, r_dgq1, r_dgq0, r_dctG, r_op1, r_eff, r_eff0, r_call, r_call0, r_inl, r_g, r_gq, r_gc, r_effg, r_effg0, r_callg, r_callg0, r_fin, r_pre, r_imp, r_all, r_ex, r_fing, r_preg, r_exg, r_inBlock, r_inLoop, r_frame, r_frame1, r_skip, r_stuck, r_region, r_seq, r_cond, r_cond1, r_block, r_exit, r_exit1, r_exit2, r_ret, r_loop, s_args0, s_args1, s_xt, s_xc, u0, u1, u2, w0, w1, noOwn, noOwnL, padL, blankL, callee, calleeM, callArgs, eff, ctOf, ctM, ctI, getL, setL, S.put, S.upd, unopts, unopt, unoptsO, unoptsB, lazyO, guardOf, gbool, eMov, eNot, eNeg, eConv, eExt, eLenArr, eLen, eLenStr, eEqb, eEqv, allEq, eNil, negIf, eBool2, eCmp, eAri, ari, eBit, eDiv, eSh, eMinMax, foldMin, foldMax, kEq, pure1, cmpB, VO.quiet, resVals, resVal, tupled, popRet, popTo, cond, Option.bind, Option.map, eNew, eBox, asCells, lenH, snocH, eFieldAddr, eField, eLoad, cellsAt, getH, setH, dropL, takeL, mkAgg, lenL, lenS, shift, shiftL, shiftH, viewN, viewL, view, andT, junks, List.append_nil, Nat.beq, eIdxAddr, eIdxArr, idxN_0, idxN_1, idxN_2, idxN_3, eIndex, eStore, storeAt, spliceL, ones, one, eSlice, eSliceArr, bounds, subLo_z, addLo_z, subLo_one, addLo_one, eMake, eAppend, readS, repL, buildCells, chunk, purgeL, purgeLL, purgeH, purge, refs, refsL, List.cons_append, List.nil_append, wrOps, wrAl, wrDops, wrC, junkAt, putAll, putHs, headOf, headK, keepG, List.append_eq, headX, VO.isAppend, chkG, chkA, napP, napB, there, wrDtr, chkP, apartP, apartB, blk, strip, runAl, AL.ho, yld, putPs, lenN, findR, notRound, jumpK, jumpPT, jcode, List.map_cons, List.map_nil, ite_self, reduceIte]
            simp only [leS_mk, leL_cons, leL_nil, le_junk, le_int, le_bool, le_nil, leLL_nil, leLL_cons, leH_cons, leH_nil, leH1_box, leH1_own, leH1_gone, le_vs, le_agg, le_tup, le_ptr, le_own, le_xp, le_fn, le_opt, le_val, le_elem, le_nil_own, le_nil_vs, leH_ghost, leL_chunk, leXL_id, bnd_int, bnd_bool, bnd_val, bnd_nil, bnd_junk, bnd_vs, bnd_xp, bnd_agg, bnd_tup, bnd_ptr, bnd_own, bnd_elem, bnd_fn, bnd_iface, bnd_opt, bndL_nil, bndL_cons, lenH_cons, lenH_nil, imp_self, implies_true, true_and, and_true]
          · rintro ⟨q, r⟩ ⟨hd, hr⟩
            dsimp only at hd hr
            dsimp only [r_end, r_end1, r_nil, r_op, r_opg, r_runOp, r_op0, r_yld0, r_yld1, r_y, r_rbeg, r_rend, r_rend1, r_rfrm, r_rfrm1, r_range, r_rangeK, r_rangeE, r_draw, r_drawT, r_tleaf, r_tops, r_tbr, s_chkF, s_chkT, r_dnil, r_dop, r_dopg, r_dplq, r_dplh, r_dq, r_dq0, r_dcl1, r_dcl0, r_dct1, r_dct0, r_dgd, r_dgq1, r_dgq0, r_dctG, r_op1, r_eff, r_eff0, r_call, r_call0, r_inl, r_g, r_gq, r_gc, r_effg, r_effg0, r_callg, r_callg0, r_fin, r_pre, r_imp, r_all, r_ex, r_fing, r_preg, r_exg, r_inBlock, r_inLoop, r_frame, r_frame1, r_skip, r_stuck, r_region, r_seq, r_cond, r_cond1, r_block, r_exit, r_exit1, r_exit2, r_ret, r_loop, s_args0, s_args1, s_xt, s_xc, u0, u1, u2, w0, w1, noOwn, noOwnL, padL, blankL, callee, calleeM, callArgs, eff, ctOf, ctM, ctI, getL, setL, S.put, S.upd, unopts, unopt, unoptsO, unoptsB, lazyO, guardOf, gbool, eMov, eNot, eNeg, eConv, eExt, eLenArr, eLen, eLenStr, eEqb, eEqv, allEq, eNil, negIf, eBool2, eCmp, eAri, ari, eBit, eDiv, eSh, eMinMax, foldMin, foldMax, kEq, pure1, cmpB, VO.quiet, resVals, resVal, tupled, popRet, popTo, cond, Option.bind, Option.map, eNew, eBox, asCells, lenH, snocH, eFieldAddr, eField, eLoad, cellsAt, getH, setH, dropL, takeL, mkAgg, lenL, lenS, shift, shiftL, shiftH, viewN, viewL, view, andT, junks, List.append_nil, Nat.beq, eIdxAddr, eIdxArr, idxN_0, idxN_1, idxN_2, idxN_3, eIndex, eStore, storeAt, spliceL, ones, one, eSlice, eSliceArr, bounds, subLo_z, addLo_z, subLo_one, addLo_one, eMake, eAppend, readS, repL, buildCells, chunk, purgeL, purgeLL, purgeH, purge, refs, refsL, List.cons_append, List.nil_append, wrOps, wrAl, wrDops, wrC, junkAt, putAll, putHs, headOf, headK, keepG, List.append_eq, headX, VO.isAppend, chkG, chkA, napP, napB, there, wrDtr, chkP, apartP, apartB, blk, strip, runAl, AL.ho, yld, putPs, lenN, findR, notRound, jumpK, jumpPT, jcode, List.map_cons, List.map_nil, ite_self, reduceIte]
            simp only [true_and, and_true, imp_self, implies_true, decide_eq_true_eq, decide_eq_false_iff_not, Nat.reduceAdd, Nat.reduceLeDiff, Bool.not_not, reduceCtorEq, false_imp_iff, Bool.not_eq_true', Bool.not_eq_false', Bool.false_eq_true, and_self, forall_const, ne_eq, not_false_eq_true, Nat.reduceEqDiff]
            rw [cnd q r _ hr u0b]
            have hql := hd.le
            refine ⟨fun hc => ?_, fun hc => ?_⟩
            · obtain ⟨hq0, hn⟩ := dig_next hd y1p (by rw [eY]; exact hR1Y) u0b hc
              rw [dY q hq0 hql, sY1 r hr]
              refine ⟨fun hb => ?_, fun hb => ⟨(q - 1, r + Y / 4294967296), ⟨hn, by simp only; omega⟩, by simp only; omega, ?_⟩⟩
              · have hQ0 := dig_break hn y1p y0b (by omega) (by omega)
                rw [eY] at hQ0
                generalize q - 1 = Q0 at hQ0 ⊢
                obtain ⟨eT1, eT2⟩ := two_digits hYp hQ1 hR1.symm hQ0
                have eX : X / 4294967296 * 4294967296 + X % 4294967296 = X := Nat.div_add_mod' X 4294967296
                rw [eX, hN, ← hY, Nat.mul_div_mul_right _ _ (p2_pos s)] at eT1
                rw [eX, hN, ← hY, Nat.mul_mod_mul_right] at eT2
                have hNy : (hh * 18446744073709551616 + x) / y < 18446744073709551616 := by
                  rw [Nat.div_lt_iff_lt_mul (by omega)]; omega
                rw [Int.toNat_natCast, eR R1 _ Q0 u0b hQ0, show IntKind.u64.bits = 64 from rfl, shr_nat hs64, ← hY, eT2, Nat.mul_div_cancel _ (p2_pos s), IntWalk.u64_in ((Q1 : Int) * 4294967296) (by omega), IntWalk.u64_in _ (by omega)]
                refine ⟨by omega, ?_⟩
                have h : k (.tup [.int .u64 (((hh : Int) * 18446744073709551616 + x) / y), .int .u64 (((hh : Int) * 18446744073709551616 + x) % y)]) [] := h
                have e1 : ((hh : Int) * 18446744073709551616 + x) / y = (Q1 : Int) * 4294967296 + Q0 := by
                  have : ((hh : Int) * 18446744073709551616 + x) / y = (((hh * 18446744073709551616 + x) / y : Nat) : Int) := by
                    rw [Int.natCast_ediv] <;> first | rfl | (congr 1; omega)
                  rw [this, ← eT1]; omega
                have e2 : ((hh : Int) * 18446744073709551616 + x) % y = (((hh * 18446744073709551616 + x) % y : Nat) : Int) := by
                  rw [Int.natCast_emod] <;> first | rfl | (congr 1; omega)
                rw [e1, e2] at h
                exact ans_ii h
              · simp only [leS_mk, leL_cons, leL_nil, le_junk, le_int, le_bool, le_nil, leLL_nil, leLL_cons, leH_cons, leH_nil, leH1_box, leH1_own, leH1_gone, le_vs, le_agg, le_tup, le_ptr, le_own, le_xp, le_fn, le_opt, le_val, le_elem, le_nil_own, le_nil_vs, leH_ghost, leL_chunk, leXL_id, bnd_int, bnd_bool, bnd_val, bnd_nil, bnd_junk, bnd_vs, bnd_xp, bnd_agg, bnd_tup, bnd_ptr, bnd_own, bnd_elem, bnd_fn, bnd_iface, bnd_opt, bndL_nil, bndL_cons, lenH_cons, lenH_nil, imp_self, implies_true, true_and, and_true]
            · have hc : ¬ (4294967296 ≤ q ∨ 4294967296 * r + X % 4294967296 < q * (Y % 4294967296)) := fun hh => by
                have := (cnd q r _ hr u0b).2 hh
                rw [hc] at this; cases this
              have hQ0 := dig_end hd y1p (by omega)
              rw [eY] at hQ0
              generalize q = Q0 at hQ0 ⊢
              obtain ⟨eT1, eT2⟩ := two_digits hYp hQ1 hR1.symm hQ0
              have eX : X / 4294967296 * 4294967296 + X % 4294967296 = X := Nat.div_add_mod' X 4294967296
              rw [eX, hN, ← hY, Nat.mul_div_mul_right _ _ (p2_pos s)] at eT1
              rw [eX, hN, ← hY, Nat.mul_mod_mul_right] at eT2
              have hNy : (hh * 18446744073709551616 + x) / y < 18446744073709551616 := by
                rw [Nat.div_lt_iff_lt_mul (by omega)]; omega
              rw [Int.toNat_natCast, eR R1 _ Q0 u0b hQ0, show IntKind.u64.bits = 64 from rfl, shr_nat hs64, ← hY, eT2, Nat.mul_div_cancel _ (p2_pos s), IntWalk.u64_in ((Q1 : Int) * 4294967296) (by omega), IntWalk.u64_in _ (by omega)]
              refine ⟨by omega, ?_⟩
              have h : k (.tup [.int .u64 (((hh : Int) * 18446744073709551616 + x) / y), .int .u64 (((hh : Int) * 18446744073709551616 + x) % y)]) [] := h
              have e1 : ((hh : Int) * 18446744073709551616 + x) / y = (Q1 : Int) * 4294967296 + Q0 := by
                have : ((hh : Int) * 18446744073709551616 + x) / y = (((hh * 18446744073709551616 + x) / y : Nat) : Int) := by
                  rw [Int.natCast_ediv] <;> first | rfl | (congr 1; omega)
                rw [this, ← eT1]; omega
              have e2 : ((hh : Int) * 18446744073709551616 + x) % y = (((hh * 18446744073709551616 + x) % y : Nat) : Int) := by
                rw [Int.natCast_emod] <;> first | rfl | (congr 1; omega)
              rw [e1, e2] at h
              exact ans_ii h
  · exact h.1.elim
end Go.Proofs.YtngccjllkgpjmaaGreat

