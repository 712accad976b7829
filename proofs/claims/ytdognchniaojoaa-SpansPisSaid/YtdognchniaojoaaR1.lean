/- Numbers by limbs, walked: limb, trim, Of, Order, Plus, Minus. -/
import Derived.Test.YtdognchniaojoaaN1
import Derived.Test.YtdognchniaojoaaProg
set_option linter.all false
namespace Go.Proofs.Ytdognchniaojoaa
open Go Go.Vx
set_option maxRecDepth 100000
set_option maxHeartbeats 4000000

def v81 : VF := { ntmps := 14, res := [.tmp 4], body :=
 (.seq (.region [⟨(some 4), none, .mov, [.cn (.int .u64 0)]⟩])
 (.seq (.seq (.region [⟨(some 5), none, .mov, [.tm 1]⟩,
  ⟨(some 6), none, .mov, [.tm 0]⟩,
  ⟨(some 7), none, .len, [.tm 6]⟩,
  ⟨(some 8), none, (.cmp .lss), [.tm 5, .tm 7]⟩])
 (.cond (.tm 8) (.seq (.region [⟨(some 9), none, .mov, [.tm 0]⟩,
  ⟨(some 10), none, .mov, [.tm 1]⟩,
  ⟨(some 11), none, (.idxAddr 1), [.tm 9, .tm 10]⟩,
  ⟨(some 12), none, (.load false 1), [.tm 11]⟩,
  ⟨(some 13), none, (.conv .u64), [.tm 12]⟩,
  ⟨(some 4), none, .mov, [.tm 13]⟩])
 .ret)
  .skip))
 (.seq (.region [⟨(some 4), none, .mov, [.cn (.int .u64 0)]⟩])
 .ret))) }
theorem v81_is : vfunc Try.prog Try.f81 = some v81 := by kernel_rfl
def v80 : VF := { ntmps := 23, res := [.tmp 2], body :=
 (.seq (.region [⟨(some 2), none, .mov, [.cn .nil]⟩])
 (.seq (.region [⟨(some 4), none, .mov, [.tm 0]⟩,
  ⟨(some 5), none, .len, [.tm 4]⟩,
  ⟨(some 3), none, .mov, [.tm 5]⟩])
 (.seq (.block 0 (.loop (.seq (.seq (.region [⟨(some 6), none, .mov, [.tm 3]⟩,
  ⟨(some 7), none, (.cmp .gtr), [.tm 6, .cn (.int .i64 0)]⟩,
  ⟨(some 8), none, .mov, [.tm 7]⟩,
  ⟨(some 9), (some (8, true)), .mov, [.tm 0]⟩,
  ⟨(some 10), (some (8, true)), .mov, [.tm 3]⟩,
  ⟨(some 11), (some (8, true)), (.ari .sub), [.tm 10, .cn (.int .i64 1)]⟩,
  ⟨(some 12), (some (8, true)), (.idxAddr 1), [.tm 9, .tm 11]⟩,
  ⟨(some 13), (some (8, true)), (.load false 1), [.tm 12]⟩,
  ⟨(some 14), (some (8, true)), (.cmp .eql), [.tm 13, .cn (.int .u32 0)]⟩,
  ⟨(some 15), none, .and, [.tm 8, .tm 14]⟩])
 (.cond (.tm 15) .skip
  (.exit 0)))
 (.block 1 (.region [⟨(some 16), none, .mov, [.tm 3]⟩,
  ⟨(some 17), none, (.ari .sub), [.tm 16, .cn (.int .i64 1)]⟩,
  ⟨(some 3), none, .mov, [.tm 17]⟩])))))
 (.seq (.region [⟨(some 18), none, (.buildSlice 1 0 [(.int .u32 0)] []), []⟩,
  ⟨(some 19), none, .mov, [.tm 0]⟩,
  ⟨(some 20), none, .mov, [.tm 3]⟩,
  ⟨(some 21), none, (.slice 1 false true), [.tm 19, .tm 20]⟩,
  ⟨(some 22), none, (.append 1 4 [(.int .u32 0)]), [.tm 18, .tm 21]⟩,
  ⟨(some 2), none, .mov, [.tm 22]⟩])
 .ret)))) }
theorem v80_is : vfunc Try.prog Try.f80 = some v80 := by kernel_rfl
def v55 : VF := { ntmps := 11, res := [.tmp 2], body :=
 (.seq (.region [⟨(some 2), none, .mov, [.cn .nil]⟩])
 (.seq (.region [⟨(some 3), none, .mov, [.tm 0]⟩,
  ⟨(some 4), none, .rem, [.tm 3, .cn (.int .u64 4294967296)]⟩,
  ⟨(some 5), none, (.conv .u32), [.tm 4]⟩,
  ⟨(some 6), none, .mov, [.tm 0]⟩,
  ⟨(some 7), none, .quo, [.tm 6, .cn (.int .u64 4294967296)]⟩,
  ⟨(some 8), none, (.conv .u32), [.tm 7]⟩,
  ⟨(some 9), none, (.buildSlice 1 2 [(.int .u32 0)] [(0, 1), (1, 1)]), [.tm 5, .tm 8]⟩,
  ⟨(some 10), none, (.call 80), [.tm 9]⟩,
  ⟨(some 2), none, .mov, [.tm 10]⟩])
 .ret)) }
theorem v55_is : vfunc Try.prog Try.f55 = some v55 := by kernel_rfl
def v58 : VF := { ntmps := 30, res := [.tmp 4], body :=
 (.seq (.region [⟨(some 4), none, .mov, [.cn (.int .i64 0)]⟩])
 (.seq (.seq (.region [⟨(some 6), none, .mov, [.tm 0]⟩,
  ⟨(some 7), none, .len, [.tm 6]⟩,
  ⟨(some 8), none, .mov, [.tm 1]⟩,
  ⟨(some 9), none, .len, [.tm 8]⟩,
  ⟨(some 10), none, .max, [.tm 7, .tm 9]⟩,
  ⟨(some 11), none, (.ari .sub), [.tm 10, .cn (.int .i64 1)]⟩,
  ⟨(some 5), none, .mov, [.tm 11]⟩])
 (.block 0 (.loop (.seq (.seq (.region [⟨(some 12), none, .mov, [.tm 5]⟩,
  ⟨(some 13), none, (.cmp .geq), [.tm 12, .cn (.int .i64 0)]⟩])
 (.cond (.tm 13) .skip
  (.exit 0)))
 (.seq (.block 1 (.seq (.seq (.region [⟨(some 16), none, .mov, [.tm 0]⟩,
  ⟨(some 17), none, .mov, [.tm 5]⟩,
  ⟨(some 18), none, (.call 81), [.tm 16, .tm 17]⟩,
  ⟨(some 19), none, .mov, [.tm 1]⟩,
  ⟨(some 20), none, .mov, [.tm 5]⟩,
  ⟨(some 21), none, (.call 81), [.tm 19, .tm 20]⟩,
  ⟨(some 22), none, (.cmp .lss), [.tm 18, .tm 21]⟩])
 (.cond (.tm 22) (.seq (.region [⟨(some 4), none, .mov, [.cn (.int .i64 (-1))]⟩])
 .ret)
  .skip))
 (.seq (.region [⟨(some 23), none, .mov, [.tm 0]⟩,
  ⟨(some 24), none, .mov, [.tm 5]⟩,
  ⟨(some 25), none, (.call 81), [.tm 23, .tm 24]⟩,
  ⟨(some 26), none, .mov, [.tm 1]⟩,
  ⟨(some 27), none, .mov, [.tm 5]⟩,
  ⟨(some 28), none, (.call 81), [.tm 26, .tm 27]⟩,
  ⟨(some 29), none, (.cmp .gtr), [.tm 25, .tm 28]⟩])
 (.cond (.tm 29) (.seq (.region [⟨(some 4), none, .mov, [.cn (.int .i64 1)]⟩])
 .ret)
  .skip))))
 (.region [⟨(some 14), none, .mov, [.tm 5]⟩,
  ⟨(some 15), none, (.ari .sub), [.tm 14, .cn (.int .i64 1)]⟩,
  ⟨(some 5), none, .mov, [.tm 15]⟩]))))))
 (.seq (.region [⟨(some 4), none, .mov, [.cn (.int .i64 0)]⟩])
 .ret))) }
theorem v58_is : vfunc Try.prog Try.f58 = some v58 := by kernel_rfl
def v79 : VF := { ntmps := 38, res := [.tmp 4], body :=
 (.seq (.region [⟨(some 4), none, .mov, [.cn .nil]⟩])
 (.seq (.region [⟨(some 5), none, .mov, [.cn .nil]⟩])
 (.seq (.region [⟨(some 6), none, .mov, [.cn (.int .u64 0)]⟩])
 (.seq (.seq (.region [⟨(some 7), none, .mov, [.cn (.int .i64 0)]⟩])
 (.block 0 (.loop (.seq (.seq (.region [⟨(some 9), none, .mov, [.tm 7]⟩,
  ⟨(some 10), none, .mov, [.tm 0]⟩,
  ⟨(some 11), none, .len, [.tm 10]⟩,
  ⟨(some 12), none, .mov, [.tm 1]⟩,
  ⟨(some 13), none, .len, [.tm 12]⟩,
  ⟨(some 14), none, .max, [.tm 11, .tm 13]⟩,
  ⟨(some 15), none, (.ari .add), [.tm 14, .cn (.int .i64 1)]⟩,
  ⟨(some 16), none, (.cmp .lss), [.tm 9, .tm 15]⟩])
 (.cond (.tm 16) .skip
  (.exit 0)))
 (.seq (.block 1 (.seq (.region [⟨(some 19), none, .mov, [.tm 0]⟩,
  ⟨(some 20), none, .mov, [.tm 7]⟩,
  ⟨(some 21), none, (.call 81), [.tm 19, .tm 20]⟩,
  ⟨(some 22), none, .mov, [.tm 1]⟩,
  ⟨(some 23), none, .mov, [.tm 7]⟩,
  ⟨(some 24), none, (.call 81), [.tm 22, .tm 23]⟩,
  ⟨(some 25), none, (.ari .add), [.tm 21, .tm 24]⟩,
  ⟨(some 26), none, .mov, [.tm 6]⟩,
  ⟨(some 27), none, (.ari .add), [.tm 25, .tm 26]⟩,
  ⟨(some 8), none, .mov, [.tm 27]⟩])
 (.seq (.region [⟨(some 28), none, .mov, [.tm 5]⟩,
  ⟨(some 29), none, .mov, [.tm 8]⟩,
  ⟨(some 30), none, .rem, [.tm 29, .cn (.int .u64 4294967296)]⟩,
  ⟨(some 31), none, (.conv .u32), [.tm 30]⟩,
  ⟨(some 32), none, (.buildSlice 1 1 [(.int .u32 0)] [(0, 1)]), [.tm 31]⟩,
  ⟨(some 33), none, (.append 1 4 [(.int .u32 0)]), [.tm 28, .tm 32]⟩,
  ⟨(some 5), none, .mov, [.tm 33]⟩])
 (.region [⟨(some 34), none, .mov, [.tm 8]⟩,
  ⟨(some 35), none, .quo, [.tm 34, .cn (.int .u64 4294967296)]⟩,
  ⟨(some 6), none, .mov, [.tm 35]⟩]))))
 (.region [⟨(some 17), none, .mov, [.tm 7]⟩,
  ⟨(some 18), none, (.ari .add), [.tm 17, .cn (.int .i64 1)]⟩,
  ⟨(some 7), none, .mov, [.tm 18]⟩]))))))
 (.seq (.region [⟨(some 36), none, .mov, [.tm 5]⟩,
  ⟨(some 37), none, (.call 80), [.tm 36]⟩,
  ⟨(some 4), none, .mov, [.tm 37]⟩])
 .ret))))) }
theorem v79_is : vfunc Try.prog Try.f79 = some v79 := by kernel_rfl


/-- A number came in by n limbs. -/
def padP (a n sz : Nat) (get : Nat → List SV) : Prop := sz = 1 ∧ n ≤ 100000 ∧ a < 4294967296 ^ n ∧ ∀ k, k < n → leXL (get k) [.int .u32 (dig a k)]
theorem padP_self {a n : Nat} (hn : n ≤ 100000) (ha : a < 4294967296 ^ n) : padP a n 1 (fun k => [.int .u32 (dig a k)]) := ⟨rfl, hn, ha, fun k _ => leXL_self _⟩
theorem padP_nl {a : Nat} (hn : nl a ≤ 100000) : padP a (nl a) 1 (fun k => [.int .u32 (dig a k)]) := padP_self hn (nl_lt a)
theorem padP_0 {a sz : Nat} {get : Nat → List SV} (h : padP a 0 sz get) : a = 0 := by
  have := h.2.2.1
  simp at this; omega

def natS (z : Bool) (a : Nat) : SV := .vs true z (nl a) 1 (fun k => [.int .u32 (dig a k)])

def limbC : Ctr := { alias := false, of := fun l => match l with
  | [.vs _ _ n sz get, .int .i64 i] => .ex Nat fun a => .pre (padP a n sz get ∧ 0 ≤ i) (.fin (.int .u64 (dig a i.toNat)) [])
  | _ => noC }
def trimC : Ctr := { alias := false, of := fun l => match l with
  | [.vs _ _ n sz get] => .ex Nat fun a => .pre (padP a n sz get) (.fin (natS false a) [])
  | _ => noC }

theorem own_nat {hp : List HO} {i n m : Nat} {z zz : Bool} {get : Nat → List SV} {a : Nat} (hn : n = nl a) (hz : z = zz) (hi : getH hp i = .own z 1 m get) (hg : ∀ j, j < n → get j = [.int .u32 (dig a j)]) :
    le 0 0 (expo hp (.own i 0 n 1)) (natS zz a) := by
  have e : expo hp (.own i 0 n 1) = .vs true z n 1 (fun k => viewN true hp 2 (get (addLo 0 k))) := by
    show view true hp (viewN true hp 2) (.own i 0 n 1) = _
    unfold view
    rw [hi]; rfl
  rw [e]
  unfold natS
  rw [le_vs]
  refine ⟨id, hz, hn, rfl, fun j hj => ?_⟩
  show leXL (viewN true hp 2 (get j)) _
  rw [hg j hj]
  exact leXL_self _
theorem ans_nat {k : SV → List HO → Prop} {al : Bool} {hp : List HO} {i n m : Nat} {z zz : Bool} {get : Nat → List SV} {a : Nat} (h : k (natS zz a) []) (hn : n = nl a) (hz : z = zz) (hi : getH hp i = .own z 1 m get) (hg : ∀ j, j < n → get j = [.int .u32 (dig a j)]) :
    answers al k (.own i 0 n 1) hp := ans_le h (own_nat hn hz hi hg) (fun _ => by simp [natS, freshS, freshL])

theorem ans_natS {k : SV → List HO → Prop} {al : Bool} {hp : List HO} {t z : Bool} {a : Nat} (h : k (natS z a) []) : answers al k (.vs true z (nl a) 1 (fun k => [.int .u32 (dig a k)])) hp :=
  ans_le h (le_self _ trivial) (fun _ => by simp [natS, freshS, freshL])

def R0 : Env := { ct := fun _ => none, fn := fun _ => none, meth := fun _ _ => none }
theorem R0_ok : EnvOk Try.prog R0 := by
  refine ⟨fun f c h => ?_, fun f vf h => ?_, fun _ _ => rfl, by kernel_rfl⟩
  · cases h
  · cases h


theorem limb_ok : limbC.ok Try.prog 81 := by
  refine contract Try.func81 v81_is R0_ok 100 limbC fun args k h => ?_
  simp only [limbC] at h
  split at h
  · rename_i tt z n sz get i
    obtain ⟨a, ⟨⟨rfl, hn, ha, hg⟩, hi⟩, h⟩ := h
    refine ⟨[.vs tt z n 1 (fun k => [.int .u32 (dig a k)]), .int .i64 i], by simpa [leL, le] using hg, ?_⟩
    dsimp only [v81, r_end, r_end1, r_nil, r_op, r_opg, r_runOp, r_op0, r_yld0, r_yld1, r_y, r_rbeg, r_rend, r_rend1, r_rfrm, r_rfrm1, r_range, r_rangeK, r_rangeE, r_draw, r_dnil, r_dop, r_dopg, r_dplq, r_dplh, r_dq, r_dq0, r_dcl1, r_dcl0, r_dct1, r_dct0, r_dgd, r_dgq1, r_dgq0, r_dctG, r_op1, r_eff, r_eff0, r_call, r_call0, r_inl, r_g, r_gq, r_gc, r_effg, r_effg0, r_callg, r_callg0, r_fin, r_pre, r_imp, r_all, r_ex, r_fing, r_preg, r_exg, r_inBlock, r_inLoop, r_frame, r_frame1, r_skip, r_stuck, r_region, r_seq, r_cond, r_cond1, r_block, r_exit, r_exit1, r_exit2, r_ret, r_loop, s_args0, s_args1, s_xt, s_xc, padL, blankL, callee, callArgs, eff, ctOf, getL, setL, S.put, S.upd, unopts, unopt, unoptsO, unoptsB, lazyO, guardOf, gbool, eMov, eNot, eNeg, eConv, eExt, eLenArr, eLen, eLenStr, eEqb, eEqv, allEq, eNil, negIf, eBool2, eCmp, eAri, ari, eBit, eDiv, eSh, eMinMax, foldMin, foldMax, kEq, pure1, cmpB, VO.quiet, resVals, resVal, tupled, popRet, popTo, cond, Option.bind, Option.map, eNew, eBox, asCells, lenH, snocH, eFieldAddr, eField, eLoad, cellsAt, getH, setH, dropL, takeL, mkAgg, lenL, lenS, shift, shiftL, shiftH, viewN, viewL, view, andT, junks, List.append_nil, Nat.beq, eIdxAddr, eIdxArr, idxN_0, idxN_1, idxN_2, idxN_3, eIndex, eStore, storeAt, spliceL, ones, one, eSlice, eSliceArr, bounds, subLo_z, addLo_z, subLo_one, addLo_one, eMake, eAppend, readS, repL, buildCells, chunk, purgeL, purgeLL, purgeH, purge, refs, refsL, List.cons_append, List.nil_append, wrOps, wrAl, wrDops, wrC, junkAt, putAll, putHs, headOf, headK, keepG, List.append_eq, headX, chkP, apartP, apartB, blk, strip, runAl, AL.ho, yld, putPs, lenN, findR, notRound, jumpK, jumpPT, jcode, List.map_cons, List.map_nil, ite_self, reduceIte]
    simp only [true_and, and_true, imp_self, implies_true, decide_eq_true_eq, decide_eq_false_iff_not, Nat.reduceAdd, Nat.reduceLeDiff, Bool.not_not, reduceCtorEq, false_imp_iff, Bool.not_eq_true', Bool.not_eq_false', Bool.false_eq_true, and_self, forall_const, ne_eq, not_false_eq_true, Nat.reduceEqDiff]
    refine ⟨fun hlt => ⟨⟨hi, hlt⟩, ans_int ?_⟩, fun hge => ans_int ?_⟩
    · rw [u_nat (Nat.lt_trans (dig_lt _ _) (by decide))]; exact h
    · rw [dig_big ha (by omega)] at h; exact h
  · exact h.1.elim

theorem trim_ok : trimC.ok Try.prog 80 := by
  refine contract Try.func80 v80_is R0_ok 200 trimC fun args k h => ?_
  simp only [trimC] at h
  split at h
  · rename_i tt z n sz get
    obtain ⟨a, ⟨rfl, hn, ha, hg⟩, h⟩ := h
    refine ⟨[.vs tt z n 1 (fun k => [.int .u32 (dig a k)])], by simpa [leL, le] using hg, ?_⟩
    dsimp only [v80, r_end, r_end1, r_nil, r_op, r_opg, r_runOp, r_op0, r_yld0, r_yld1, r_y, r_rbeg, r_rend, r_rend1, r_rfrm, r_rfrm1, r_range, r_rangeK, r_rangeE, r_draw, r_dnil, r_dop, r_dopg, r_dplq, r_dplh, r_dq, r_dq0, r_dcl1, r_dcl0, r_dct1, r_dct0, r_dgd, r_dgq1, r_dgq0, r_dctG, r_op1, r_eff, r_eff0, r_call, r_call0, r_inl, r_g, r_gq, r_gc, r_effg, r_effg0, r_callg, r_callg0, r_fin, r_pre, r_imp, r_all, r_ex, r_fing, r_preg, r_exg, r_inBlock, r_inLoop, r_frame, r_frame1, r_skip, r_stuck, r_region, r_seq, r_cond, r_cond1, r_block, r_exit, r_exit1, r_exit2, r_ret, r_loop, s_args0, s_args1, s_xt, s_xc, padL, blankL, callee, callArgs, eff, ctOf, getL, setL, S.put, S.upd, unopts, unopt, unoptsO, unoptsB, lazyO, guardOf, gbool, eMov, eNot, eNeg, eConv, eExt, eLenArr, eLen, eLenStr, eEqb, eEqv, allEq, eNil, negIf, eBool2, eCmp, eAri, ari, eBit, eDiv, eSh, eMinMax, foldMin, foldMax, kEq, pure1, cmpB, VO.quiet, resVals, resVal, tupled, popRet, popTo, cond, Option.bind, Option.map, eNew, eBox, asCells, lenH, snocH, eFieldAddr, eField, eLoad, cellsAt, getH, setH, dropL, takeL, mkAgg, lenL, lenS, shift, shiftL, shiftH, viewN, viewL, view, andT, junks, List.append_nil, Nat.beq, eIdxAddr, eIdxArr, idxN_0, idxN_1, idxN_2, idxN_3, eIndex, eStore, storeAt, spliceL, ones, one, eSlice, eSliceArr, bounds, subLo_z, addLo_z, subLo_one, addLo_one, eMake, eAppend, readS, repL, buildCells, chunk, purgeL, purgeLL, purgeH, purge, refs, refsL, List.cons_append, List.nil_append, wrOps, wrAl, wrDops, wrC, junkAt, putAll, putHs, headOf, headK, keepG, List.append_eq, headX, chkP, apartP, apartB, blk, strip, runAl, AL.ho, yld, putPs, lenN, findR, notRound, jumpK, jumpPT, jcode, List.map_cons, List.map_nil, ite_self, reduceIte]
    simp only [true_and, and_true, imp_self, implies_true, decide_eq_true_eq, decide_eq_false_iff_not, Nat.reduceAdd, Nat.reduceLeDiff, Bool.not_not, reduceCtorEq, false_imp_iff, Bool.not_eq_true', Bool.not_eq_false', Bool.false_eq_true, and_self, forall_const, ne_eq, not_false_eq_true, Nat.reduceEqDiff]
    refine Loop.keep [0, 2] Nat (fun j => [(3, .int .i64 j)]) (fun _ => []) [] (fun j => j ≤ n ∧ a < 4294967296 ^ j) (fun j => j) ?_ ?_
    · refine ⟨n, ⟨Nat.le_refl _, ha⟩, ?_⟩
      dsimp only [r_end, r_end1, r_nil, r_op, r_opg, r_runOp, r_op0, r_yld0, r_yld1, r_y, r_rbeg, r_rend, r_rend1, r_rfrm, r_rfrm1, r_range, r_rangeK, r_rangeE, r_draw, r_dnil, r_dop, r_dopg, r_dplq, r_dplh, r_dq, r_dq0, r_dcl1, r_dcl0, r_dct1, r_dct0, r_dgd, r_dgq1, r_dgq0, r_dctG, r_op1, r_eff, r_eff0, r_call, r_call0, r_inl, r_g, r_gq, r_gc, r_effg, r_effg0, r_callg, r_callg0, r_fin, r_pre, r_imp, r_all, r_ex, r_fing, r_preg, r_exg, r_inBlock, r_inLoop, r_frame, r_frame1, r_skip, r_stuck, r_region, r_seq, r_cond, r_cond1, r_block, r_exit, r_exit1, r_exit2, r_ret, r_loop, s_args0, s_args1, s_xt, s_xc, padL, blankL, callee, callArgs, eff, ctOf, getL, setL, S.put, S.upd, unopts, unopt, unoptsO, unoptsB, lazyO, guardOf, gbool, eMov, eNot, eNeg, eConv, eExt, eLenArr, eLen, eLenStr, eEqb, eEqv, allEq, eNil, negIf, eBool2, eCmp, eAri, ari, eBit, eDiv, eSh, eMinMax, foldMin, foldMax, kEq, pure1, cmpB, VO.quiet, resVals, resVal, tupled, popRet, popTo, cond, Option.bind, Option.map, eNew, eBox, asCells, lenH, snocH, eFieldAddr, eField, eLoad, cellsAt, getH, setH, dropL, takeL, mkAgg, lenL, lenS, shift, shiftL, shiftH, viewN, viewL, view, andT, junks, List.append_nil, Nat.beq, eIdxAddr, eIdxArr, idxN_0, idxN_1, idxN_2, idxN_3, eIndex, eStore, storeAt, spliceL, ones, one, eSlice, eSliceArr, bounds, subLo_z, addLo_z, subLo_one, addLo_one, eMake, eAppend, readS, repL, buildCells, chunk, purgeL, purgeLL, purgeH, purge, refs, refsL, List.cons_append, List.nil_append, wrOps, wrAl, wrDops, wrC, junkAt, putAll, putHs, headOf, headK, keepG, List.append_eq, headX, chkP, apartP, apartB, blk, strip, runAl, AL.ho, yld, putPs, lenN, findR, notRound, jumpK, jumpPT, jcode, List.map_cons, List.map_nil, ite_self, reduceIte]
      simp only [leS_mk, leL_cons, leL_nil, le_junk, le_int, le_bool, le_nil, leLL_nil, leLL_cons, leH_cons, leH_nil, leH1_box, leH1_own, leH1_gone, le_vs, le_agg, le_tup, le_ptr, le_own, le_xp, le_fn, le_opt, le_val, le_elem, le_nil_own, le_nil_vs, leH_ghost, leL_chunk, leXL_id, bnd_int, bnd_bool, bnd_val, bnd_nil, bnd_junk, bnd_vs, bnd_xp, bnd_agg, bnd_tup, bnd_ptr, bnd_own, bnd_elem, bnd_fn, bnd_iface, bnd_opt, bndL_nil, bndL_cons, lenH_cons, lenH_nil, imp_self, implies_true, true_and, and_true]
    · rintro j ⟨hj, haj⟩
      dsimp only [Int.toNat_natCast, r_end, r_end1, r_nil, r_op, r_opg, r_runOp, r_op0, r_yld0, r_yld1, r_y, r_rbeg, r_rend, r_rend1, r_rfrm, r_rfrm1, r_range, r_rangeK, r_rangeE, r_draw, r_dnil, r_dop, r_dopg, r_dplq, r_dplh, r_dq, r_dq0, r_dcl1, r_dcl0, r_dct1, r_dct0, r_dgd, r_dgq1, r_dgq0, r_dctG, r_op1, r_eff, r_eff0, r_call, r_call0, r_inl, r_g, r_gq, r_gc, r_effg, r_effg0, r_callg, r_callg0, r_fin, r_pre, r_imp, r_all, r_ex, r_fing, r_preg, r_exg, r_inBlock, r_inLoop, r_frame, r_frame1, r_skip, r_stuck, r_region, r_seq, r_cond, r_cond1, r_block, r_exit, r_exit1, r_exit2, r_ret, r_loop, s_args0, s_args1, s_xt, s_xc, padL, blankL, callee, callArgs, eff, ctOf, getL, setL, S.put, S.upd, unopts, unopt, unoptsO, unoptsB, lazyO, guardOf, gbool, eMov, eNot, eNeg, eConv, eExt, eLenArr, eLen, eLenStr, eEqb, eEqv, allEq, eNil, negIf, eBool2, eCmp, eAri, ari, eBit, eDiv, eSh, eMinMax, foldMin, foldMax, kEq, pure1, cmpB, VO.quiet, resVals, resVal, tupled, popRet, popTo, cond, Option.bind, Option.map, eNew, eBox, asCells, lenH, snocH, eFieldAddr, eField, eLoad, cellsAt, getH, setH, dropL, takeL, mkAgg, lenL, lenS, shift, shiftL, shiftH, viewN, viewL, view, andT, junks, List.append_nil, Nat.beq, eIdxAddr, eIdxArr, idxN_0, idxN_1, idxN_2, idxN_3, eIndex, eStore, storeAt, spliceL, ones, one, eSlice, eSliceArr, bounds, subLo_z, addLo_z, subLo_one, addLo_one, eMake, eAppend, readS, repL, buildCells, chunk, purgeL, purgeLL, purgeH, purge, refs, refsL, List.cons_append, List.nil_append, wrOps, wrAl, wrDops, wrC, junkAt, putAll, putHs, headOf, headK, keepG, List.append_eq, headX, chkP, apartP, apartB, blk, strip, runAl, AL.ho, yld, putPs, lenN, findR, notRound, jumpK, jumpPT, jcode, List.map_cons, List.map_nil, ite_self, reduceIte]
      simp only [true_and, and_true, imp_self, implies_true, decide_eq_true_eq, decide_eq_false_iff_not, Nat.reduceAdd, Nat.reduceLeDiff, Bool.not_not, reduceCtorEq, false_imp_iff, Bool.not_eq_true', Bool.not_eq_false', Bool.false_eq_true, and_self, forall_const, ne_eq, not_false_eq_true, Nat.reduceEqDiff]
      refine ⟨fun hlt => ?_, fun hb => ?_, fun hb => ?_⟩
      · rw [w_pred (by omega) (by omega)]; omega
      · rw [Bool.and_eq_true, decide_eq_true_eq, decide_eq_true_eq] at hb
        obtain ⟨h1, h2⟩ := hb
        rw [w_pred (by omega) (by omega), Int.toNat_natCast] at h2
        refine ⟨j - 1, ⟨by omega, ?_⟩, by omega, ?_⟩
        · obtain ⟨m, rfl⟩ : ∃ m, j = m + 1 := ⟨j - 1, by omega⟩
          exact lt_trim haj (by simp at h2; exact_mod_cast h2)
        · rw [w_pred (by omega) (by omega)]
          simp only [leS_mk, leL_cons, leL_nil, le_junk, le_int, le_bool, le_nil, leLL_nil, leLL_cons, leH_cons, leH_nil, leH1_box, leH1_own, leH1_gone, le_vs, le_agg, le_tup, le_ptr, le_own, le_xp, le_fn, le_opt, le_val, le_elem, le_nil_own, le_nil_vs, leH_ghost, leL_chunk, leXL_id, bnd_int, bnd_bool, bnd_val, bnd_nil, bnd_junk, bnd_vs, bnd_xp, bnd_agg, bnd_tup, bnd_ptr, bnd_own, bnd_elem, bnd_fn, bnd_iface, bnd_opt, bndL_nil, bndL_cons, lenH_cons, lenH_nil, imp_self, implies_true, true_and, and_true] <;> simp
      · have e : nl a = j := by
          refine nl_trim haj ?_
          rw [Bool.and_eq_false_iff, decide_eq_false_iff_not, decide_eq_false_iff_not] at hb
          rcases Nat.eq_zero_or_pos j with h0 | h0
          · exact .inl h0
          · refine .inr fun hh => hb.elim (fun h => h (by omega)) fun h => h ?_
            rw [w_pred h0 (by omega), Int.toNat_natCast, hh]; rfl
        subst e
        dsimp only [Int.toNat_natCast, r_end, r_end1, r_nil, r_op, r_opg, r_runOp, r_op0, r_yld0, r_yld1, r_y, r_rbeg, r_rend, r_rend1, r_rfrm, r_rfrm1, r_range, r_rangeK, r_rangeE, r_draw, r_dnil, r_dop, r_dopg, r_dplq, r_dplh, r_dq, r_dq0, r_dcl1, r_dcl0, r_dct1, r_dct0, r_dgd, r_dgq1, r_dgq0, r_dctG, r_op1, r_eff, r_eff0, r_call, r_call0, r_inl, r_g, r_gq, r_gc, r_effg, r_effg0, r_callg, r_callg0, r_fin, r_pre, r_imp, r_all, r_ex, r_fing, r_preg, r_exg, r_inBlock, r_inLoop, r_frame, r_frame1, r_skip, r_stuck, r_region, r_seq, r_cond, r_cond1, r_block, r_exit, r_exit1, r_exit2, r_ret, r_loop, s_args0, s_args1, s_xt, s_xc, padL, blankL, callee, callArgs, eff, ctOf, getL, setL, S.put, S.upd, unopts, unopt, unoptsO, unoptsB, lazyO, guardOf, gbool, eMov, eNot, eNeg, eConv, eExt, eLenArr, eLen, eLenStr, eEqb, eEqv, allEq, eNil, negIf, eBool2, eCmp, eAri, ari, eBit, eDiv, eSh, eMinMax, foldMin, foldMax, kEq, pure1, cmpB, VO.quiet, resVals, resVal, tupled, popRet, popTo, cond, Option.bind, Option.map, eNew, eBox, asCells, lenH, snocH, eFieldAddr, eField, eLoad, cellsAt, getH, setH, dropL, takeL, mkAgg, lenL, lenS, shift, shiftL, shiftH, viewN, viewL, view, andT, junks, List.append_nil, Nat.beq, eIdxAddr, eIdxArr, idxN_0, idxN_1, idxN_2, idxN_3, eIndex, eStore, storeAt, spliceL, ones, one, eSlice, eSliceArr, bounds, subLo_z, addLo_z, subLo_one, addLo_one, eMake, eAppend, readS, repL, buildCells, chunk, purgeL, purgeLL, purgeH, purge, refs, refsL, List.cons_append, List.nil_append, wrOps, wrAl, wrDops, wrC, junkAt, putAll, putHs, headOf, headK, keepG, List.append_eq, headX, chkP, apartP, apartB, blk, strip, runAl, AL.ho, yld, putPs, lenN, findR, notRound, jumpK, jumpPT, jcode, List.map_cons, List.map_nil, ite_self, reduceIte]
        simp only [true_and, and_true, imp_self, implies_true, decide_eq_true_eq, decide_eq_false_iff_not, Nat.reduceAdd, Nat.reduceLeDiff, Bool.not_not, reduceCtorEq, false_imp_iff, Bool.not_eq_true', Bool.not_eq_false', Bool.false_eq_true, and_self, forall_const, ne_eq, not_false_eq_true, Nat.reduceEqDiff]
        refine ⟨by decide, ⟨by omega, by omega⟩, by unfold capOk; omega, ans_nat h (Nat.zero_add _) ?_ rfl fun j hj => ?_⟩
        · rfl
        · rw [if_neg (Nat.not_lt_zero _)]; rfl
  · exact h.1.elim
def ofC : Ctr := { alias := false, of := fun l => match l with
  | [.int .u64 n] => .pre (0 ≤ n ∧ n < 18446744073709551616) (.fin (natS false n.toNat) [])
  | _ => noC }
def orderC : Ctr := { alias := false, of := fun l => match l with
  | [.vs _ _ n sz get, .vs _ _ m sz' get'] => .ex Nat fun a => .ex Nat fun b => .pre (padP a n sz get ∧ padP b m sz' get') (.fin (.int .i64 (ordN a b)) [])
  | _ => noC }
def plusC : Ctr := { alias := false, of := fun l => match l with
  | [.vs _ _ n sz get, .vs _ _ m sz' get'] => .ex Nat fun a => .ex Nat fun b => .pre (padP a n sz get ∧ padP b m sz' get' ∧ n ≤ 99999 ∧ m ≤ 99999) (.fin (natS false (a + b)) [])
  | _ => noC }

def R1 : Env := { ct := fun n => match n with | 81 => some limbC | 80 => some trimC | _ => none, fn := fun _ => none, meth := fun _ _ => none }
theorem R1_ct81 : R1.ct 81 = some limbC := rfl
theorem R1_ct80 : R1.ct 80 = some trimC := rfl
theorem R1_ok : EnvOk Try.prog R1 := by
  refine ⟨fun f c h => ?_, fun f vf h => ?_, fun _ _ => rfl, by kernel_rfl⟩
  · simp only [R1] at h
    split at h
    · cases h; exact ⟨limb_ok, Try.f81, Try.func81, by kernel_rfl, by kernel_rfl⟩
    · cases h; exact ⟨trim_ok, Try.f80, Try.func80, by kernel_rfl, by kernel_rfl⟩
    · cases h
  · cases h


theorem of_pad (n : Nat) (h : n < 18446744073709551616) : padP n 2 1 fun k => viewL false [HO.own false 1 2 (chunk 1 [SV.int .u32 (IntKind.u32.wrap ((n : Int).tmod 4294967296)), SV.int .u32 (IntKind.u32.wrap (IntKind.u64.wrap ((n : Int).tdiv 4294967296)))])]
    (fun x => viewL false [HO.own false 1 2 (chunk 1 [SV.int .u32 (IntKind.u32.wrap ((n : Int).tmod 4294967296)), SV.int .u32 (IntKind.u32.wrap (IntKind.u64.wrap ((n : Int).tdiv 4294967296)))])] (fun x => junks x) x)
    (takeL 1 (dropL (k * 1) [SV.int .u32 (IntKind.u32.wrap ((n : Int).tmod 4294967296)), SV.int .u32 (IntKind.u32.wrap (IntKind.u64.wrap ((n : Int).tdiv 4294967296)))])) := by
  refine ⟨rfl, by decide, by omega, fun k hk => ?_⟩
  have h0 : dig n 0 = n % 4294967296 := dig_0 n
  have h1 : dig n 1 = n / 4294967296 := by rw [dig_succ, dig_0]; omega
  match k, hk with
  | 0, _ => rw [h0, u3_rem]; exact leXL_self _
  | 1, _ => rw [h1, u_quo h, u3_nat (by omega)]; exact leXL_self _

theorem of_ok : ofC.ok Try.prog 55 := by
  refine contract Try.func55 v55_is R1_ok 200 ofC fun args k h => ?_
  simp only [ofC] at h
  split at h
  · rename_i n
    obtain ⟨⟨h0, h1⟩, h⟩ := h
    obtain ⟨n, rfl⟩ := Int.eq_ofNat_of_zero_le h0
    refine ⟨[.int .u64 n], by simp [leL, le], ?_⟩
    dsimp only [v55, R1_ct80, trimC, natS, r_end, r_end1, r_nil, r_op, r_opg, r_runOp, r_op0, r_yld0, r_yld1, r_y, r_rbeg, r_rend, r_rend1, r_rfrm, r_rfrm1, r_range, r_rangeK, r_rangeE, r_draw, r_dnil, r_dop, r_dopg, r_dplq, r_dplh, r_dq, r_dq0, r_dcl1, r_dcl0, r_dct1, r_dct0, r_dgd, r_dgq1, r_dgq0, r_dctG, r_op1, r_eff, r_eff0, r_call, r_call0, r_inl, r_g, r_gq, r_gc, r_effg, r_effg0, r_callg, r_callg0, r_fin, r_pre, r_imp, r_all, r_ex, r_fing, r_preg, r_exg, r_inBlock, r_inLoop, r_frame, r_frame1, r_skip, r_stuck, r_region, r_seq, r_cond, r_cond1, r_block, r_exit, r_exit1, r_exit2, r_ret, r_loop, s_args0, s_args1, s_xt, s_xc, padL, blankL, callee, callArgs, eff, ctOf, getL, setL, S.put, S.upd, unopts, unopt, unoptsO, unoptsB, lazyO, guardOf, gbool, eMov, eNot, eNeg, eConv, eExt, eLenArr, eLen, eLenStr, eEqb, eEqv, allEq, eNil, negIf, eBool2, eCmp, eAri, ari, eBit, eDiv, eSh, eMinMax, foldMin, foldMax, kEq, pure1, cmpB, VO.quiet, resVals, resVal, tupled, popRet, popTo, cond, Option.bind, Option.map, eNew, eBox, asCells, lenH, snocH, eFieldAddr, eField, eLoad, cellsAt, getH, setH, dropL, takeL, mkAgg, lenL, lenS, shift, shiftL, shiftH, viewN, viewL, view, andT, junks, List.append_nil, Nat.beq, eIdxAddr, eIdxArr, idxN_0, idxN_1, idxN_2, idxN_3, eIndex, eStore, storeAt, spliceL, ones, one, eSlice, eSliceArr, bounds, subLo_z, addLo_z, subLo_one, addLo_one, eMake, eAppend, readS, repL, buildCells, chunk, purgeL, purgeLL, purgeH, purge, refs, refsL, List.cons_append, List.nil_append, wrOps, wrAl, wrDops, wrC, junkAt, putAll, putHs, headOf, headK, keepG, List.append_eq, headX, chkP, apartP, apartB, blk, strip, runAl, AL.ho, yld, putPs, lenN, findR, notRound, jumpK, jumpPT, jcode, List.map_cons, List.map_nil, ite_self, reduceIte]
    simp only [true_and, and_true, imp_self, implies_true, decide_eq_true_eq, decide_eq_false_iff_not, Nat.reduceAdd, Nat.reduceLeDiff, Bool.not_not, reduceCtorEq, false_imp_iff, Bool.not_eq_true', Bool.not_eq_false', Bool.false_eq_true, and_self, forall_const, ne_eq, not_false_eq_true, Nat.reduceEqDiff]
    refine ⟨by decide, by decide, by decide, n, of_pad n (by omega), ?_⟩
    exact ans_natS (t := true) h
  · exact h.1.elim

theorem order_ok : orderC.ok Try.prog 58 := by
  refine contract Try.func58 v58_is R1_ok 200 orderC fun args k h => ?_
  simp only [orderC] at h
  split at h
  · rename_i t1 z1 n sz get t2 z2 m sz' get'
    obtain ⟨a, b, ⟨⟨rfl, hn, ha, hg⟩, rfl, hm, hb, hg'⟩, h⟩ := h
    refine ⟨[.vs t1 z1 n 1 (fun k => [.int .u32 (dig a k)]), .vs t2 z2 m 1 (fun k => [.int .u32 (dig b k)])], ⟨by simpa [le] using hg, by simpa [le] using hg', trivial⟩, ?_⟩
    dsimp only [v58, R1_ct81, limbC, r_end, r_end1, r_nil, r_op, r_opg, r_runOp, r_op0, r_yld0, r_yld1, r_y, r_rbeg, r_rend, r_rend1, r_rfrm, r_rfrm1, r_range, r_rangeK, r_rangeE, r_draw, r_dnil, r_dop, r_dopg, r_dplq, r_dplh, r_dq, r_dq0, r_dcl1, r_dcl0, r_dct1, r_dct0, r_dgd, r_dgq1, r_dgq0, r_dctG, r_op1, r_eff, r_eff0, r_call, r_call0, r_inl, r_g, r_gq, r_gc, r_effg, r_effg0, r_callg, r_callg0, r_fin, r_pre, r_imp, r_all, r_ex, r_fing, r_preg, r_exg, r_inBlock, r_inLoop, r_frame, r_frame1, r_skip, r_stuck, r_region, r_seq, r_cond, r_cond1, r_block, r_exit, r_exit1, r_exit2, r_ret, r_loop, s_args0, s_args1, s_xt, s_xc, padL, blankL, callee, callArgs, eff, ctOf, getL, setL, S.put, S.upd, unopts, unopt, unoptsO, unoptsB, lazyO, guardOf, gbool, eMov, eNot, eNeg, eConv, eExt, eLenArr, eLen, eLenStr, eEqb, eEqv, allEq, eNil, negIf, eBool2, eCmp, eAri, ari, eBit, eDiv, eSh, eMinMax, foldMin, foldMax, kEq, pure1, cmpB, VO.quiet, resVals, resVal, tupled, popRet, popTo, cond, Option.bind, Option.map, eNew, eBox, asCells, lenH, snocH, eFieldAddr, eField, eLoad, cellsAt, getH, setH, dropL, takeL, mkAgg, lenL, lenS, shift, shiftL, shiftH, viewN, viewL, view, andT, junks, List.append_nil, Nat.beq, eIdxAddr, eIdxArr, idxN_0, idxN_1, idxN_2, idxN_3, eIndex, eStore, storeAt, spliceL, ones, one, eSlice, eSliceArr, bounds, subLo_z, addLo_z, subLo_one, addLo_one, eMake, eAppend, readS, repL, buildCells, chunk, purgeL, purgeLL, purgeH, purge, refs, refsL, List.cons_append, List.nil_append, wrOps, wrAl, wrDops, wrC, junkAt, putAll, putHs, headOf, headK, keepG, List.append_eq, headX, chkP, apartP, apartB, blk, strip, runAl, AL.ho, yld, putPs, lenN, findR, notRound, jumpK, jumpPT, jcode, List.map_cons, List.map_nil, ite_self, reduceIte]
    simp only [true_and, and_true, imp_self, implies_true, decide_eq_true_eq, decide_eq_false_iff_not, Nat.reduceAdd, Nat.reduceLeDiff, Bool.not_not, reduceCtorEq, false_imp_iff, Bool.not_eq_true', Bool.not_eq_false', Bool.false_eq_true, and_self, forall_const, ne_eq, not_false_eq_true, Nat.reduceEqDiff]
    refine Loop.keep [0, 0, 3] Nat (fun j => [(5, .int .i64 ((j : Int) - 1))]) (fun _ => []) [] (fun j => j ≤ 100000 ∧ ∀ i, j ≤ i → dig a i = dig b i) (fun j => j) ?_ ?_
    · refine ⟨max n m, ⟨by omega, fun i hi => by rw [dig_big ha (by omega), dig_big hb (by omega)]⟩, ?_⟩
      dsimp only [r_end, r_end1, r_nil, r_op, r_opg, r_runOp, r_op0, r_yld0, r_yld1, r_y, r_rbeg, r_rend, r_rend1, r_rfrm, r_rfrm1, r_range, r_rangeK, r_rangeE, r_draw, r_dnil, r_dop, r_dopg, r_dplq, r_dplh, r_dq, r_dq0, r_dcl1, r_dcl0, r_dct1, r_dct0, r_dgd, r_dgq1, r_dgq0, r_dctG, r_op1, r_eff, r_eff0, r_call, r_call0, r_inl, r_g, r_gq, r_gc, r_effg, r_effg0, r_callg, r_callg0, r_fin, r_pre, r_imp, r_all, r_ex, r_fing, r_preg, r_exg, r_inBlock, r_inLoop, r_frame, r_frame1, r_skip, r_stuck, r_region, r_seq, r_cond, r_cond1, r_block, r_exit, r_exit1, r_exit2, r_ret, r_loop, s_args0, s_args1, s_xt, s_xc, padL, blankL, callee, callArgs, eff, ctOf, getL, setL, S.put, S.upd, unopts, unopt, unoptsO, unoptsB, lazyO, guardOf, gbool, eMov, eNot, eNeg, eConv, eExt, eLenArr, eLen, eLenStr, eEqb, eEqv, allEq, eNil, negIf, eBool2, eCmp, eAri, ari, eBit, eDiv, eSh, eMinMax, foldMin, foldMax, kEq, pure1, cmpB, VO.quiet, resVals, resVal, tupled, popRet, popTo, cond, Option.bind, Option.map, eNew, eBox, asCells, lenH, snocH, eFieldAddr, eField, eLoad, cellsAt, getH, setH, dropL, takeL, mkAgg, lenL, lenS, shift, shiftL, shiftH, viewN, viewL, view, andT, junks, List.append_nil, Nat.beq, eIdxAddr, eIdxArr, idxN_0, idxN_1, idxN_2, idxN_3, eIndex, eStore, storeAt, spliceL, ones, one, eSlice, eSliceArr, bounds, subLo_z, addLo_z, subLo_one, addLo_one, eMake, eAppend, readS, repL, buildCells, chunk, purgeL, purgeLL, purgeH, purge, refs, refsL, List.cons_append, List.nil_append, wrOps, wrAl, wrDops, wrC, junkAt, putAll, putHs, headOf, headK, keepG, List.append_eq, headX, chkP, apartP, apartB, blk, strip, runAl, AL.ho, yld, putPs, lenN, findR, notRound, jumpK, jumpPT, jcode, List.map_cons, List.map_nil, ite_self, reduceIte]
      simp only [leS_mk, leL_cons, leL_nil, le_junk, le_int, le_bool, le_nil, leLL_nil, leLL_cons, leH_cons, leH_nil, leH1_box, leH1_own, leH1_gone, le_vs, le_agg, le_tup, le_ptr, le_own, le_xp, le_fn, le_opt, le_val, le_elem, le_nil_own, le_nil_vs, leH_ghost, leL_chunk, leXL_id, bnd_int, bnd_bool, bnd_val, bnd_nil, bnd_junk, bnd_vs, bnd_xp, bnd_agg, bnd_tup, bnd_ptr, bnd_own, bnd_elem, bnd_fn, bnd_iface, bnd_opt, bndL_nil, bndL_cons, lenH_cons, lenH_nil, imp_self, implies_true, true_and, and_true]
      rw [IntWalk.i64_in _ (by omega)]
      simp <;> omega
    · rintro j ⟨hj, haj⟩
      dsimp only [R1_ct81, limbC, r_end, r_end1, r_nil, r_op, r_opg, r_runOp, r_op0, r_yld0, r_yld1, r_y, r_rbeg, r_rend, r_rend1, r_rfrm, r_rfrm1, r_range, r_rangeK, r_rangeE, r_draw, r_dnil, r_dop, r_dopg, r_dplq, r_dplh, r_dq, r_dq0, r_dcl1, r_dcl0, r_dct1, r_dct0, r_dgd, r_dgq1, r_dgq0, r_dctG, r_op1, r_eff, r_eff0, r_call, r_call0, r_inl, r_g, r_gq, r_gc, r_effg, r_effg0, r_callg, r_callg0, r_fin, r_pre, r_imp, r_all, r_ex, r_fing, r_preg, r_exg, r_inBlock, r_inLoop, r_frame, r_frame1, r_skip, r_stuck, r_region, r_seq, r_cond, r_cond1, r_block, r_exit, r_exit1, r_exit2, r_ret, r_loop, s_args0, s_args1, s_xt, s_xc, padL, blankL, callee, callArgs, eff, ctOf, getL, setL, S.put, S.upd, unopts, unopt, unoptsO, unoptsB, lazyO, guardOf, gbool, eMov, eNot, eNeg, eConv, eExt, eLenArr, eLen, eLenStr, eEqb, eEqv, allEq, eNil, negIf, eBool2, eCmp, eAri, ari, eBit, eDiv, eSh, eMinMax, foldMin, foldMax, kEq, pure1, cmpB, VO.quiet, resVals, resVal, tupled, popRet, popTo, cond, Option.bind, Option.map, eNew, eBox, asCells, lenH, snocH, eFieldAddr, eField, eLoad, cellsAt, getH, setH, dropL, takeL, mkAgg, lenL, lenS, shift, shiftL, shiftH, viewN, viewL, view, andT, junks, List.append_nil, Nat.beq, eIdxAddr, eIdxArr, idxN_0, idxN_1, idxN_2, idxN_3, eIndex, eStore, storeAt, spliceL, ones, one, eSlice, eSliceArr, bounds, subLo_z, addLo_z, subLo_one, addLo_one, eMake, eAppend, readS, repL, buildCells, chunk, purgeL, purgeLL, purgeH, purge, refs, refsL, List.cons_append, List.nil_append, wrOps, wrAl, wrDops, wrC, junkAt, putAll, putHs, headOf, headK, keepG, List.append_eq, headX, chkP, apartP, apartB, blk, strip, runAl, AL.ho, yld, putPs, lenN, findR, notRound, jumpK, jumpPT, jcode, List.map_cons, List.map_nil, ite_self, reduceIte]
      simp only [true_and, and_true, imp_self, implies_true, decide_eq_true_eq, decide_eq_false_iff_not, Nat.reduceAdd, Nat.reduceLeDiff, Bool.not_not, reduceCtorEq, false_imp_iff, Bool.not_eq_true', Bool.not_eq_false', Bool.false_eq_true, and_self, forall_const, ne_eq, not_false_eq_true, Nat.reduceEqDiff]
      refine ⟨fun hlt => ?_, fun hge => ?_⟩
      · obtain ⟨i, rfl⟩ : ∃ i, j = i + 1 := ⟨j - 1, by omega⟩
        have e : ((i + 1 : Nat) : Int) - 1 = i := by omega
        have gt : ∀ t, i < t → dig a t = dig b t := fun t ht => haj t (by omega)
        rw [e]
        simp only [Int.toNat_natCast]
        refine ⟨a, ⟨padP_self hn ha, by omega⟩, b, ⟨padP_self hm hb, by omega⟩, fun hc => ans_int ?_, fun hc => ⟨a, ⟨padP_self hn ha, by omega⟩, b, ⟨padP_self hm hb, by omega⟩, fun hd => ans_int ?_, fun hd => ?_⟩⟩
        · have := dig_cmp gt (by omega : dig a i < dig b i)
          rw [ordN, if_pos this] at h; exact h
        · have := dig_cmp (fun t ht => (gt t ht).symm) (by omega : dig b i < dig a i)
          rw [ordN, if_neg (by omega), if_pos this] at h; exact h
        · refine ⟨i, ⟨by omega, fun t ht => ?_⟩, by omega, ?_⟩
          · rcases Nat.eq_or_lt_of_le ht with rfl | ht
            · omega
            · exact gt t ht
          · simp only [leS_mk, leL_cons, leL_nil, le_junk, le_int, le_bool, le_nil, leLL_nil, leLL_cons, leH_cons, leH_nil, leH1_box, leH1_own, leH1_gone, le_vs, le_agg, le_tup, le_ptr, le_own, le_xp, le_fn, le_opt, le_val, le_elem, le_nil_own, le_nil_vs, leH_ghost, leL_chunk, leXL_id, bnd_int, bnd_bool, bnd_val, bnd_nil, bnd_junk, bnd_vs, bnd_xp, bnd_agg, bnd_tup, bnd_ptr, bnd_own, bnd_elem, bnd_fn, bnd_iface, bnd_opt, bndL_nil, bndL_cons, lenH_cons, lenH_nil, imp_self, implies_true, true_and, and_true]
            rw [IntWalk.i64_in _ (by omega)]
      · obtain rfl : j = 0 := by omega
        have : a = b := dig_all fun i => haj i (Nat.zero_le _)
        rw [ordN, if_neg (by omega), if_neg (by omega)] at h
        exact ans_int h
  · exact h.1.elim

theorem plus_ok : plusC.ok Try.prog 79 := by
  refine contract Try.func79 v79_is R1_ok 200 plusC fun args k h => ?_
  simp only [plusC] at h
  split at h
  · rename_i t1 z1 n sz get t2 z2 m sz' get'
    obtain ⟨a, b, ⟨⟨rfl, hn, ha, hg⟩, ⟨rfl, hm, hb, hg'⟩, hn9, hm9⟩, h⟩ := h
    refine ⟨[.vs t1 z1 n 1 (fun k => [.int .u32 (dig a k)]), .vs t2 z2 m 1 (fun k => [.int .u32 (dig b k)])], ⟨by simpa [le] using hg, by simpa [le] using hg', trivial⟩, ?_⟩
    dsimp only [v79, r_end, r_end1, r_nil, r_op, r_opg, r_runOp, r_op0, r_yld0, r_yld1, r_y, r_rbeg, r_rend, r_rend1, r_rfrm, r_rfrm1, r_range, r_rangeK, r_rangeE, r_draw, r_dnil, r_dop, r_dopg, r_dplq, r_dplh, r_dq, r_dq0, r_dcl1, r_dcl0, r_dct1, r_dct0, r_dgd, r_dgq1, r_dgq0, r_dctG, r_op1, r_eff, r_eff0, r_call, r_call0, r_inl, r_g, r_gq, r_gc, r_effg, r_effg0, r_callg, r_callg0, r_fin, r_pre, r_imp, r_all, r_ex, r_fing, r_preg, r_exg, r_inBlock, r_inLoop, r_frame, r_frame1, r_skip, r_stuck, r_region, r_seq, r_cond, r_cond1, r_block, r_exit, r_exit1, r_exit2, r_ret, r_loop, s_args0, s_args1, s_xt, s_xc, padL, blankL, callee, callArgs, eff, ctOf, getL, setL, S.put, S.upd, unopts, unopt, unoptsO, unoptsB, lazyO, guardOf, gbool, eMov, eNot, eNeg, eConv, eExt, eLenArr, eLen, eLenStr, eEqb, eEqv, allEq, eNil, negIf, eBool2, eCmp, eAri, ari, eBit, eDiv, eSh, eMinMax, foldMin, foldMax, kEq, pure1, cmpB, VO.quiet, resVals, resVal, tupled, popRet, popTo, cond, Option.bind, Option.map, eNew, eBox, asCells, lenH, snocH, eFieldAddr, eField, eLoad, cellsAt, getH, setH, dropL, takeL, mkAgg, lenL, lenS, shift, shiftL, shiftH, viewN, viewL, view, andT, junks, List.append_nil, Nat.beq, eIdxAddr, eIdxArr, idxN_0, idxN_1, idxN_2, idxN_3, eIndex, eStore, storeAt, spliceL, ones, one, eSlice, eSliceArr, bounds, subLo_z, addLo_z, subLo_one, addLo_one, eMake, eAppend, readS, repL, buildCells, chunk, purgeL, purgeLL, purgeH, purge, refs, refsL, List.cons_append, List.nil_append, wrOps, wrAl, wrDops, wrC, junkAt, putAll, putHs, headOf, headK, keepG, List.append_eq, headX, chkP, apartP, apartB, blk, strip, runAl, AL.ho, yld, putPs, lenN, findR, notRound, jumpK, jumpPT, jcode, List.map_cons, List.map_nil, ite_self, reduceIte]
    simp only [true_and, and_true, imp_self, implies_true, decide_eq_true_eq, decide_eq_false_iff_not, Nat.reduceAdd, Nat.reduceLeDiff, Bool.not_not, reduceCtorEq, false_imp_iff, Bool.not_eq_true', Bool.not_eq_false', Bool.false_eq_true, and_self, forall_const, ne_eq, not_false_eq_true, Nat.reduceEqDiff]
    refine Loop.keep [0, 0, 3, 0, 0] Nat (fun i => [(5, .own 0 0 i 1), (6, .int .u64 (cy a b i)), (7, .int .i64 i)]) (fun i => [(0, .own (decide (i = 0)) 1 i (fun k => [.int .u32 (dig (a + b) k)]))]) [.gone] (fun i => i ≤ max n m + 1) (fun i => max n m + 1 - i) ?_ ?_
    · refine ⟨0, by omega, ?_⟩
      dsimp only [r_end, r_end1, r_nil, r_op, r_opg, r_runOp, r_op0, r_yld0, r_yld1, r_y, r_rbeg, r_rend, r_rend1, r_rfrm, r_rfrm1, r_range, r_rangeK, r_rangeE, r_draw, r_dnil, r_dop, r_dopg, r_dplq, r_dplh, r_dq, r_dq0, r_dcl1, r_dcl0, r_dct1, r_dct0, r_dgd, r_dgq1, r_dgq0, r_dctG, r_op1, r_eff, r_eff0, r_call, r_call0, r_inl, r_g, r_gq, r_gc, r_effg, r_effg0, r_callg, r_callg0, r_fin, r_pre, r_imp, r_all, r_ex, r_fing, r_preg, r_exg, r_inBlock, r_inLoop, r_frame, r_frame1, r_skip, r_stuck, r_region, r_seq, r_cond, r_cond1, r_block, r_exit, r_exit1, r_exit2, r_ret, r_loop, s_args0, s_args1, s_xt, s_xc, padL, blankL, callee, callArgs, eff, ctOf, getL, setL, S.put, S.upd, unopts, unopt, unoptsO, unoptsB, lazyO, guardOf, gbool, eMov, eNot, eNeg, eConv, eExt, eLenArr, eLen, eLenStr, eEqb, eEqv, allEq, eNil, negIf, eBool2, eCmp, eAri, ari, eBit, eDiv, eSh, eMinMax, foldMin, foldMax, kEq, pure1, cmpB, VO.quiet, resVals, resVal, tupled, popRet, popTo, cond, Option.bind, Option.map, eNew, eBox, asCells, lenH, snocH, eFieldAddr, eField, eLoad, cellsAt, getH, setH, dropL, takeL, mkAgg, lenL, lenS, shift, shiftL, shiftH, viewN, viewL, view, andT, junks, List.append_nil, Nat.beq, eIdxAddr, eIdxArr, idxN_0, idxN_1, idxN_2, idxN_3, eIndex, eStore, storeAt, spliceL, ones, one, eSlice, eSliceArr, bounds, subLo_z, addLo_z, subLo_one, addLo_one, eMake, eAppend, readS, repL, buildCells, chunk, purgeL, purgeLL, purgeH, purge, refs, refsL, List.cons_append, List.nil_append, wrOps, wrAl, wrDops, wrC, junkAt, putAll, putHs, headOf, headK, keepG, List.append_eq, headX, chkP, apartP, apartB, blk, strip, runAl, AL.ho, yld, putPs, lenN, findR, notRound, jumpK, jumpPT, jcode, List.map_cons, List.map_nil, ite_self, reduceIte]
      simp only [leS_mk, leL_cons, leL_nil, le_junk, le_int, le_bool, le_nil, leLL_nil, leLL_cons, leH_cons, leH_nil, leH1_box, leH1_own, leH1_gone, le_vs, le_agg, le_tup, le_ptr, le_own, le_xp, le_fn, le_opt, le_val, le_elem, le_nil_own, le_nil_vs, leH_ghost, leL_chunk, leXL_id, bnd_int, bnd_bool, bnd_val, bnd_nil, bnd_junk, bnd_vs, bnd_xp, bnd_agg, bnd_tup, bnd_ptr, bnd_own, bnd_elem, bnd_fn, bnd_iface, bnd_opt, bndL_nil, bndL_cons, lenH_cons, lenH_nil, imp_self, implies_true, true_and, and_true]
      simp [cy_0]
    · rintro i hi
      dsimp only [R1_ct81, R1_ct80, limbC, trimC, natS, Int.toNat_natCast, r_end, r_end1, r_nil, r_op, r_opg, r_runOp, r_op0, r_yld0, r_yld1, r_y, r_rbeg, r_rend, r_rend1, r_rfrm, r_rfrm1, r_range, r_rangeK, r_rangeE, r_draw, r_dnil, r_dop, r_dopg, r_dplq, r_dplh, r_dq, r_dq0, r_dcl1, r_dcl0, r_dct1, r_dct0, r_dgd, r_dgq1, r_dgq0, r_dctG, r_op1, r_eff, r_eff0, r_call, r_call0, r_inl, r_g, r_gq, r_gc, r_effg, r_effg0, r_callg, r_callg0, r_fin, r_pre, r_imp, r_all, r_ex, r_fing, r_preg, r_exg, r_inBlock, r_inLoop, r_frame, r_frame1, r_skip, r_stuck, r_region, r_seq, r_cond, r_cond1, r_block, r_exit, r_exit1, r_exit2, r_ret, r_loop, s_args0, s_args1, s_xt, s_xc, padL, blankL, callee, callArgs, eff, ctOf, getL, setL, S.put, S.upd, unopts, unopt, unoptsO, unoptsB, lazyO, guardOf, gbool, eMov, eNot, eNeg, eConv, eExt, eLenArr, eLen, eLenStr, eEqb, eEqv, allEq, eNil, negIf, eBool2, eCmp, eAri, ari, eBit, eDiv, eSh, eMinMax, foldMin, foldMax, kEq, pure1, cmpB, VO.quiet, resVals, resVal, tupled, popRet, popTo, cond, Option.bind, Option.map, eNew, eBox, asCells, lenH, snocH, eFieldAddr, eField, eLoad, cellsAt, getH, setH, dropL, takeL, mkAgg, lenL, lenS, shift, shiftL, shiftH, viewN, viewL, view, andT, junks, List.append_nil, Nat.beq, eIdxAddr, eIdxArr, idxN_0, idxN_1, idxN_2, idxN_3, eIndex, eStore, storeAt, spliceL, ones, one, eSlice, eSliceArr, bounds, subLo_z, addLo_z, subLo_one, addLo_one, eMake, eAppend, readS, repL, buildCells, chunk, purgeL, purgeLL, purgeH, purge, refs, refsL, List.cons_append, List.nil_append, wrOps, wrAl, wrDops, wrC, junkAt, putAll, putHs, headOf, headK, keepG, List.append_eq, headX, chkP, apartP, apartB, blk, strip, runAl, AL.ho, yld, putPs, lenN, findR, notRound, jumpK, jumpPT, jcode, List.map_cons, List.map_nil, ite_self, reduceIte]
      simp only [true_and, and_true, imp_self, implies_true, decide_eq_true_eq, decide_eq_false_iff_not, Nat.reduceAdd, Nat.reduceLeDiff, Bool.not_not, reduceCtorEq, false_imp_iff, Bool.not_eq_true', Bool.not_eq_false', Bool.false_eq_true, and_self, forall_const, ne_eq, not_false_eq_true, Nat.reduceEqDiff]
      have emax : IntKind.i64.wrap (max (n : Int) (m : Int) + 1) = ((max n m + 1 : Nat) : Int) := by rw [IntWalk.i64_in _ (by omega)]; omega
      rw [emax]
      refine ⟨fun hlt => ⟨a, ⟨padP_self hn ha, by omega⟩, b, ⟨padP_self hm hb, by omega⟩, by decide, by decide, ?_⟩, fun hge => ⟨a + b, ?_, ?_⟩⟩
      · have hd1 := dig_lt a i
        have hd2 := dig_lt b i
        have hc := cy_le a b i
        have e1 := add_dig a b i
        have e2 := add_cy a b i
        rw [u_add (by omega), u_add (by omega)]
        dsimp only [r_end, r_end1, r_nil, r_op, r_opg, r_runOp, r_op0, r_yld0, r_yld1, r_y, r_rbeg, r_rend, r_rend1, r_rfrm, r_rfrm1, r_range, r_rangeK, r_rangeE, r_draw, r_dnil, r_dop, r_dopg, r_dplq, r_dplh, r_dq, r_dq0, r_dcl1, r_dcl0, r_dct1, r_dct0, r_dgd, r_dgq1, r_dgq0, r_dctG, r_op1, r_eff, r_eff0, r_call, r_call0, r_inl, r_g, r_gq, r_gc, r_effg, r_effg0, r_callg, r_callg0, r_fin, r_pre, r_imp, r_all, r_ex, r_fing, r_preg, r_exg, r_inBlock, r_inLoop, r_frame, r_frame1, r_skip, r_stuck, r_region, r_seq, r_cond, r_cond1, r_block, r_exit, r_exit1, r_exit2, r_ret, r_loop, s_args0, s_args1, s_xt, s_xc, padL, blankL, callee, callArgs, eff, ctOf, getL, setL, S.put, S.upd, unopts, unopt, unoptsO, unoptsB, lazyO, guardOf, gbool, eMov, eNot, eNeg, eConv, eExt, eLenArr, eLen, eLenStr, eEqb, eEqv, allEq, eNil, negIf, eBool2, eCmp, eAri, ari, eBit, eDiv, eSh, eMinMax, foldMin, foldMax, kEq, pure1, cmpB, VO.quiet, resVals, resVal, tupled, popRet, popTo, cond, Option.bind, Option.map, eNew, eBox, asCells, lenH, snocH, eFieldAddr, eField, eLoad, cellsAt, getH, setH, dropL, takeL, mkAgg, lenL, lenS, shift, shiftL, shiftH, viewN, viewL, view, andT, junks, List.append_nil, Nat.beq, eIdxAddr, eIdxArr, idxN_0, idxN_1, idxN_2, idxN_3, eIndex, eStore, storeAt, spliceL, ones, one, eSlice, eSliceArr, bounds, subLo_z, addLo_z, subLo_one, addLo_one, eMake, eAppend, readS, repL, buildCells, chunk, purgeL, purgeLL, purgeH, purge, refs, refsL, List.cons_append, List.nil_append, wrOps, wrAl, wrDops, wrC, junkAt, putAll, putHs, headOf, headK, keepG, List.append_eq, headX, chkP, apartP, apartB, blk, strip, runAl, AL.ho, yld, putPs, lenN, findR, notRound, jumpK, jumpPT, jcode, List.map_cons, List.map_nil, ite_self, reduceIte]
        simp only [true_and, and_true, imp_self, implies_true, decide_eq_true_eq, decide_eq_false_iff_not, Nat.reduceAdd, Nat.reduceLeDiff, Bool.not_not, reduceCtorEq, false_imp_iff, Bool.not_eq_true', Bool.not_eq_false', Bool.false_eq_true, and_self, forall_const, ne_eq, not_false_eq_true, Nat.reduceEqDiff]
        refine ⟨⟨by unfold capOk; omega, fun j hj => ?_⟩, by decide, i + 1, by omega, by omega, ?_⟩
        · match j, hj with
          | 0, _ => exact ⟨rfl, trivial, trivial⟩
        · rw [u3_rem, u_quo (by omega), e1, e2, IntWalk.i64_in ((i : Int) + 1) (by omega)]
          simp only [leS_mk, leL_cons, leL_nil, le_junk, le_int, le_bool, le_nil, leLL_nil, leLL_cons, leH_cons, leH_nil, leH1_box, leH1_own, leH1_gone, le_vs, le_agg, le_tup, le_ptr, le_own, le_xp, le_fn, le_opt, le_val, le_elem, le_nil_own, le_nil_vs, leH_ghost, leL_chunk, leXL_id, bnd_int, bnd_bool, bnd_val, bnd_nil, bnd_junk, bnd_vs, bnd_xp, bnd_agg, bnd_tup, bnd_ptr, bnd_own, bnd_elem, bnd_fn, bnd_iface, bnd_opt, bndL_nil, bndL_cons, lenH_cons, lenH_nil, imp_self, implies_true, true_and, and_true]
          refine ⟨by simp, by simp, fun j hj => ?_⟩
          rcases Nat.lt_or_ge j i with h' | h'
          · rw [if_pos h']; simp only [leL, le, and_self]
          · obtain rfl : j = i := by omega
            rw [if_neg (Nat.lt_irrefl _), Nat.sub_self]
            simp only [purgeL, takeL, dropL, leL, Nat.zero_mul, purge, refs, cond, le, and_self]
      · obtain rfl : i = max n m + 1 := by omega
        refine padP_self (by omega) ?_
        have h1 : a < 4294967296 ^ max n m := Nat.lt_of_lt_of_le ha (Nat.pow_le_pow_right (by decide) (by omega))
        have h2 : b < 4294967296 ^ max n m := Nat.lt_of_lt_of_le hb (Nat.pow_le_pow_right (by decide) (by omega))
        rw [pw_succ]; omega
      · exact ans_natS (t := true) h
  · exact h.1.elim
end Go.Proofs.Ytdognchniaojoaa
