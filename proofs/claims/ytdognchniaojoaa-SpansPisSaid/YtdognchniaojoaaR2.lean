/- Numbers by limbs, walked: Minus, Times. -/
import Derived.Test.YtdognchniaojoaaR1
set_option linter.all false
namespace Go.Proofs.Ytdognchniaojoaa
open Go Go.Vx
set_option maxRecDepth 100000
set_option maxHeartbeats 4000000

def v95 : VF := { ntmps := 36, res := [.tmp 4], body :=
 (.seq (.region [⟨(some 4), none, .mov, [.cn .nil]⟩])
 (.seq (.region [⟨(some 5), none, .mov, [.cn .nil]⟩])
 (.seq (.region [⟨(some 6), none, .mov, [.cn (.int .u64 0)]⟩])
 (.seq (.seq (.region [⟨(some 7), none, .mov, [.cn (.int .i64 0)]⟩])
 (.block 0 (.loop (.seq (.seq (.region [⟨(some 9), none, .mov, [.tm 7]⟩,
  ⟨(some 10), none, .mov, [.tm 0]⟩,
  ⟨(some 11), none, .len, [.tm 10]⟩,
  ⟨(some 12), none, (.cmp .lss), [.tm 9, .tm 11]⟩])
 (.cond (.tm 12) .skip
  (.exit 0)))
 (.seq (.block 1 (.seq (.region [⟨(some 15), none, .mov, [.tm 0]⟩,
  ⟨(some 16), none, .mov, [.tm 7]⟩,
  ⟨(some 17), none, (.call 81), [.tm 15, .tm 16]⟩,
  ⟨(some 18), none, (.ari .add), [.cn (.int .u64 4294967296), .tm 17]⟩,
  ⟨(some 19), none, .mov, [.tm 1]⟩,
  ⟨(some 20), none, .mov, [.tm 7]⟩,
  ⟨(some 21), none, (.call 81), [.tm 19, .tm 20]⟩,
  ⟨(some 22), none, (.ari .sub), [.tm 18, .tm 21]⟩,
  ⟨(some 23), none, .mov, [.tm 6]⟩,
  ⟨(some 24), none, (.ari .sub), [.tm 22, .tm 23]⟩,
  ⟨(some 8), none, .mov, [.tm 24]⟩])
 (.seq (.region [⟨(some 25), none, .mov, [.tm 5]⟩,
  ⟨(some 26), none, .mov, [.tm 8]⟩,
  ⟨(some 27), none, .rem, [.tm 26, .cn (.int .u64 4294967296)]⟩,
  ⟨(some 28), none, (.conv .u32), [.tm 27]⟩,
  ⟨(some 29), none, (.buildSlice 1 1 [(.int .u32 0)] [(0, 1)]), [.tm 28]⟩,
  ⟨(some 30), none, (.append 1 4 [(.int .u32 0)]), [.tm 25, .tm 29]⟩,
  ⟨(some 5), none, .mov, [.tm 30]⟩])
 (.region [⟨(some 31), none, .mov, [.tm 8]⟩,
  ⟨(some 32), none, .quo, [.tm 31, .cn (.int .u64 4294967296)]⟩,
  ⟨(some 33), none, (.ari .sub), [.cn (.int .u64 1), .tm 32]⟩,
  ⟨(some 6), none, .mov, [.tm 33]⟩]))))
 (.region [⟨(some 13), none, .mov, [.tm 7]⟩,
  ⟨(some 14), none, (.ari .add), [.tm 13, .cn (.int .i64 1)]⟩,
  ⟨(some 7), none, .mov, [.tm 14]⟩]))))))
 (.seq (.region [⟨(some 34), none, .mov, [.tm 5]⟩,
  ⟨(some 35), none, (.call 80), [.tm 34]⟩,
  ⟨(some 4), none, .mov, [.tm 35]⟩])
 .ret))))) }
theorem v95_is : vfunc Try.prog Try.f95 = some v95 := by kernel_rfl
def v71 : VF := { ntmps := 59, res := [.tmp 4], body :=
 (.seq (.region [⟨(some 4), none, .mov, [.cn .nil]⟩])
 (.seq (.region [⟨(some 10), none, .mov, [.tm 0]⟩,
  ⟨(some 11), none, .len, [.tm 10]⟩,
  ⟨(some 12), none, .mov, [.tm 1]⟩,
  ⟨(some 13), none, .len, [.tm 12]⟩,
  ⟨(some 14), none, (.ari .add), [.tm 11, .tm 13]⟩,
  ⟨(some 15), none, (.ari .add), [.tm 14, .cn (.int .i64 1)]⟩,
  ⟨(some 16), none, (.make 1 4 [(.int .u32 0)]), [.tm 15, .tm 15]⟩,
  ⟨(some 5), none, .mov, [.tm 16]⟩])
 (.seq (.seq (.region [⟨(some 6), none, .mov, [.cn (.int .i64 0)]⟩])
 (.block 0 (.loop (.seq (.seq (.region [⟨(some 17), none, .mov, [.tm 6]⟩,
  ⟨(some 18), none, .mov, [.tm 0]⟩,
  ⟨(some 19), none, .len, [.tm 18]⟩,
  ⟨(some 20), none, (.cmp .lss), [.tm 17, .tm 19]⟩])
 (.cond (.tm 20) .skip
  (.exit 0)))
 (.seq (.block 1 (.seq (.region [⟨(some 7), none, .mov, [.cn (.int .u64 0)]⟩])
 (.seq (.region [⟨(some 8), none, .mov, [.cn (.int .i64 0)]⟩])
 (.block 2 (.loop (.seq (.seq (.region [⟨(some 23), none, .mov, [.tm 8]⟩,
  ⟨(some 24), none, .mov, [.tm 1]⟩,
  ⟨(some 25), none, .len, [.tm 24]⟩,
  ⟨(some 26), none, (.ari .add), [.tm 25, .cn (.int .i64 1)]⟩,
  ⟨(some 27), none, (.cmp .lss), [.tm 23, .tm 26]⟩])
 (.cond (.tm 27) .skip
  (.exit 2)))
 (.seq (.block 3 (.seq (.draw [] [⟨⟨(some 30), none, .mov, [.tm 5]⟩, []⟩,
  ⟨⟨(some 31), none, .mov, [.tm 6]⟩, []⟩,
  ⟨⟨(some 32), none, .mov, [.tm 8]⟩, []⟩,
  ⟨⟨(some 33), none, (.ari .add), [.tm 31, .tm 32]⟩, []⟩,
  ⟨⟨(some 34), none, (.idxAddr 1), [.tm 30, .tm 33]⟩, []⟩,
  ⟨⟨(some 35), none, (.load false 1), [.tm 34]⟩, []⟩,
  ⟨⟨(some 36), none, (.conv .u64), [.tm 35]⟩, []⟩,
  ⟨⟨(some 37), none, .mov, [.tm 0]⟩, []⟩,
  ⟨⟨(some 38), none, .mov, [.tm 6]⟩, []⟩,
  ⟨⟨(some 40), none, .mov, [.tm 1]⟩, []⟩,
  ⟨⟨(some 41), none, .mov, [.tm 8]⟩, []⟩,
  ⟨⟨(some 45), none, .mov, [.tm 7]⟩, []⟩,
  ⟨⟨(some 39), none, (.call 81), [.tm 37, .tm 38]⟩, []⟩,
  ⟨⟨(some 42), none, (.call 81), [.tm 40, .tm 41]⟩, []⟩,
  ⟨⟨(some 43), none, (.ari .mul), [.tm 39, .tm 42]⟩, []⟩,
  ⟨⟨(some 44), none, (.ari .add), [.tm 36, .tm 43]⟩, []⟩,
  ⟨⟨(some 46), none, (.ari .add), [.tm 44, .tm 45]⟩, []⟩,
  ⟨⟨(some 9), none, .mov, [.tm 46]⟩, []⟩])
 (.seq (.region [⟨(some 47), none, .mov, [.tm 5]⟩,
  ⟨(some 48), none, .mov, [.tm 6]⟩,
  ⟨(some 49), none, .mov, [.tm 8]⟩,
  ⟨(some 50), none, (.ari .add), [.tm 48, .tm 49]⟩,
  ⟨(some 51), none, .mov, [.tm 9]⟩,
  ⟨(some 52), none, .rem, [.tm 51, .cn (.int .u64 4294967296)]⟩,
  ⟨(some 53), none, (.conv .u32), [.tm 52]⟩,
  ⟨(some 54), none, (.idxAddr 1), [.tm 47, .tm 50]⟩,
  ⟨none, none, (.store 1), [.tm 54, .tm 53]⟩])
 (.region [⟨(some 55), none, .mov, [.tm 9]⟩,
  ⟨(some 56), none, .quo, [.tm 55, .cn (.int .u64 4294967296)]⟩,
  ⟨(some 7), none, .mov, [.tm 56]⟩]))))
 (.region [⟨(some 28), none, .mov, [.tm 8]⟩,
  ⟨(some 29), none, (.ari .add), [.tm 28, .cn (.int .i64 1)]⟩,
  ⟨(some 8), none, .mov, [.tm 29]⟩]))))))))
 (.region [⟨(some 21), none, .mov, [.tm 6]⟩,
  ⟨(some 22), none, (.ari .add), [.tm 21, .cn (.int .i64 1)]⟩,
  ⟨(some 6), none, .mov, [.tm 22]⟩]))))))
 (.seq (.region [⟨(some 57), none, .mov, [.tm 5]⟩,
  ⟨(some 58), none, (.call 80), [.tm 57]⟩,
  ⟨(some 4), none, .mov, [.tm 58]⟩])
 .ret)))) }
theorem v71_is : vfunc Try.prog Try.f71 = some v71 := by kernel_rfl


def minusC : Ctr := { alias := false, of := fun l => match l with
  | [.vs _ _ n sz get, .vs _ _ m sz' get'] => .ex Nat fun a => .ex Nat fun b => .pre (padP a n sz get ∧ padP b m sz' get' ∧ b ≤ a) (.fin (natS false (a - b)) [])
  | _ => noC }
def timesC : Ctr := { alias := false, of := fun l => match l with
  | [.vs _ _ n sz get, .vs _ _ m sz' get'] => .ex Nat fun a => .ex Nat fun b => .pre (padP a n sz get ∧ padP b m sz' get' ∧ n + m ≤ 99999) (.fin (natS false (a * b)) [])
  | _ => noC }

theorem minus_ok : minusC.ok Try.prog 95 := by
  refine contract Try.func95 v95_is R1_ok 200 minusC fun args k h => ?_
  simp only [minusC] at h
  split at h
  · rename_i t1 z1 n sz get t2 z2 m sz' get'
    obtain ⟨a, b, ⟨⟨rfl, hn, ha, hg⟩, ⟨rfl, hm, hb, hg'⟩, hba⟩, h⟩ := h
    refine ⟨[.vs t1 z1 n 1 (fun k => [.int .u32 (dig a k)]), .vs t2 z2 m 1 (fun k => [.int .u32 (dig b k)])], ⟨by simpa [le] using hg, by simpa [le] using hg', trivial⟩, ?_⟩
    dsimp only [v95, r_end, r_end1, r_nil, r_op, r_opg, r_runOp, r_op0, r_yld0, r_yld1, r_y, r_rbeg, r_rend, r_rend1, r_rfrm, r_rfrm1, r_range, r_rangeK, r_rangeE, r_draw, r_dnil, r_dop, r_dopg, r_dplq, r_dplh, r_dq, r_dq0, r_dcl1, r_dcl0, r_dct1, r_dct0, r_dgd, r_dgq1, r_dgq0, r_dctG, r_op1, r_eff, r_eff0, r_call, r_call0, r_inl, r_g, r_gq, r_gc, r_effg, r_effg0, r_callg, r_callg0, r_fin, r_pre, r_imp, r_all, r_ex, r_fing, r_preg, r_exg, r_inBlock, r_inLoop, r_frame, r_frame1, r_skip, r_stuck, r_region, r_seq, r_cond, r_cond1, r_block, r_exit, r_exit1, r_exit2, r_ret, r_loop, s_args0, s_args1, s_xt, s_xc, padL, blankL, callee, callArgs, eff, ctOf, getL, setL, S.put, S.upd, unopts, unopt, unoptsO, unoptsB, lazyO, guardOf, gbool, eMov, eNot, eNeg, eConv, eExt, eLenArr, eLen, eLenStr, eEqb, eEqv, allEq, eNil, negIf, eBool2, eCmp, eAri, ari, eBit, eDiv, eSh, eMinMax, foldMin, foldMax, kEq, pure1, cmpB, VO.quiet, resVals, resVal, tupled, popRet, popTo, cond, Option.bind, Option.map, eNew, eBox, asCells, lenH, snocH, eFieldAddr, eField, eLoad, cellsAt, getH, setH, dropL, takeL, mkAgg, lenL, lenS, shift, shiftL, shiftH, viewN, viewL, view, andT, junks, List.append_nil, Nat.beq, eIdxAddr, eIdxArr, idxN_0, idxN_1, idxN_2, idxN_3, eIndex, eStore, storeAt, spliceL, ones, one, eSlice, eSliceArr, bounds, subLo_z, addLo_z, subLo_one, addLo_one, eMake, eAppend, readS, repL, buildCells, chunk, purgeL, purgeLL, purgeH, purge, refs, refsL, List.cons_append, List.nil_append, wrOps, wrAl, wrDops, wrC, junkAt, putAll, putHs, headOf, headK, keepG, List.append_eq, headX, chkP, apartP, apartB, blk, strip, runAl, AL.ho, yld, putPs, lenN, findR, notRound, jumpK, jumpPT, jcode, List.map_cons, List.map_nil, ite_self, reduceIte]
    simp only [true_and, and_true, imp_self, implies_true, decide_eq_true_eq, decide_eq_false_iff_not, Nat.reduceAdd, Nat.reduceLeDiff, Bool.not_not, reduceCtorEq, false_imp_iff, Bool.not_eq_true', Bool.not_eq_false', Bool.false_eq_true, and_self, forall_const, ne_eq, not_false_eq_true, Nat.reduceEqDiff]
    refine Loop.keep [0, 0, 3, 0, 0] Nat (fun i => [(5, .own 0 0 i 1), (6, .int .u64 (cy b (a - b) i)), (7, .int .i64 i)]) (fun i => [(0, .own (decide (i = 0)) 1 i (fun k => [.int .u32 (dig (a - b) k)]))]) [.gone] (fun i => i ≤ n) (fun i => n - i) ?_ ?_
    · refine ⟨0, by omega, ?_⟩
      dsimp only [r_end, r_end1, r_nil, r_op, r_opg, r_runOp, r_op0, r_yld0, r_yld1, r_y, r_rbeg, r_rend, r_rend1, r_rfrm, r_rfrm1, r_range, r_rangeK, r_rangeE, r_draw, r_dnil, r_dop, r_dopg, r_dplq, r_dplh, r_dq, r_dq0, r_dcl1, r_dcl0, r_dct1, r_dct0, r_dgd, r_dgq1, r_dgq0, r_dctG, r_op1, r_eff, r_eff0, r_call, r_call0, r_inl, r_g, r_gq, r_gc, r_effg, r_effg0, r_callg, r_callg0, r_fin, r_pre, r_imp, r_all, r_ex, r_fing, r_preg, r_exg, r_inBlock, r_inLoop, r_frame, r_frame1, r_skip, r_stuck, r_region, r_seq, r_cond, r_cond1, r_block, r_exit, r_exit1, r_exit2, r_ret, r_loop, s_args0, s_args1, s_xt, s_xc, padL, blankL, callee, callArgs, eff, ctOf, getL, setL, S.put, S.upd, unopts, unopt, unoptsO, unoptsB, lazyO, guardOf, gbool, eMov, eNot, eNeg, eConv, eExt, eLenArr, eLen, eLenStr, eEqb, eEqv, allEq, eNil, negIf, eBool2, eCmp, eAri, ari, eBit, eDiv, eSh, eMinMax, foldMin, foldMax, kEq, pure1, cmpB, VO.quiet, resVals, resVal, tupled, popRet, popTo, cond, Option.bind, Option.map, eNew, eBox, asCells, lenH, snocH, eFieldAddr, eField, eLoad, cellsAt, getH, setH, dropL, takeL, mkAgg, lenL, lenS, shift, shiftL, shiftH, viewN, viewL, view, andT, junks, List.append_nil, Nat.beq, eIdxAddr, eIdxArr, idxN_0, idxN_1, idxN_2, idxN_3, eIndex, eStore, storeAt, spliceL, ones, one, eSlice, eSliceArr, bounds, subLo_z, addLo_z, subLo_one, addLo_one, eMake, eAppend, readS, repL, buildCells, chunk, purgeL, purgeLL, purgeH, purge, refs, refsL, List.cons_append, List.nil_append, wrOps, wrAl, wrDops, wrC, junkAt, putAll, putHs, headOf, headK, keepG, List.append_eq, headX, chkP, apartP, apartB, blk, strip, runAl, AL.ho, yld, putPs, lenN, findR, notRound, jumpK, jumpPT, jcode, List.map_cons, List.map_nil, ite_self, reduceIte]
      simp only [leS_mk, leL_cons, leL_nil, le_junk, le_int, le_bool, le_nil, leLL_nil, leLL_cons, leH_cons, leH_nil, leH1_box, leH1_own, leH1_gone, le_vs, le_agg, le_tup, le_ptr, le_own, le_xp, le_fn, le_opt, le_val, le_elem, le_nil_own, le_nil_vs, leH_ghost, leL_chunk, leXL_id, bnd_int, bnd_bool, bnd_val, bnd_nil, bnd_junk, bnd_vs, bnd_xp, bnd_agg, bnd_tup, bnd_ptr, bnd_own, bnd_elem, bnd_fn, bnd_iface, bnd_opt, bndL_nil, bndL_cons, lenH_cons, lenH_nil, imp_self, implies_true, true_and, and_true]
      simp [cy_0]
    · rintro i hi
      dsimp only [R1_ct81, R1_ct80, limbC, trimC, natS, Int.toNat_natCast, r_end, r_end1, r_nil, r_op, r_opg, r_runOp, r_op0, r_yld0, r_yld1, r_y, r_rbeg, r_rend, r_rend1, r_rfrm, r_rfrm1, r_range, r_rangeK, r_rangeE, r_draw, r_dnil, r_dop, r_dopg, r_dplq, r_dplh, r_dq, r_dq0, r_dcl1, r_dcl0, r_dct1, r_dct0, r_dgd, r_dgq1, r_dgq0, r_dctG, r_op1, r_eff, r_eff0, r_call, r_call0, r_inl, r_g, r_gq, r_gc, r_effg, r_effg0, r_callg, r_callg0, r_fin, r_pre, r_imp, r_all, r_ex, r_fing, r_preg, r_exg, r_inBlock, r_inLoop, r_frame, r_frame1, r_skip, r_stuck, r_region, r_seq, r_cond, r_cond1, r_block, r_exit, r_exit1, r_exit2, r_ret, r_loop, s_args0, s_args1, s_xt, s_xc, padL, blankL, callee, callArgs, eff, ctOf, getL, setL, S.put, S.upd, unopts, unopt, unoptsO, unoptsB, lazyO, guardOf, gbool, eMov, eNot, eNeg, eConv, eExt, eLenArr, eLen, eLenStr, eEqb, eEqv, allEq, eNil, negIf, eBool2, eCmp, eAri, ari, eBit, eDiv, eSh, eMinMax, foldMin, foldMax, kEq, pure1, cmpB, VO.quiet, resVals, resVal, tupled, popRet, popTo, cond, Option.bind, Option.map, eNew, eBox, asCells, lenH, snocH, eFieldAddr, eField, eLoad, cellsAt, getH, setH, dropL, takeL, mkAgg, lenL, lenS, shift, shiftL, shiftH, viewN, viewL, view, andT, junks, List.append_nil, Nat.beq, eIdxAddr, eIdxArr, idxN_0, idxN_1, idxN_2, idxN_3, eIndex, eStore, storeAt, spliceL, ones, one, eSlice, eSliceArr, bounds, subLo_z, addLo_z, subLo_one, addLo_one, eMake, eAppend, readS, repL, buildCells, chunk, purgeL, purgeLL, purgeH, purge, refs, refsL, List.cons_append, List.nil_append, wrOps, wrAl, wrDops, wrC, junkAt, putAll, putHs, headOf, headK, keepG, List.append_eq, headX, chkP, apartP, apartB, blk, strip, runAl, AL.ho, yld, putPs, lenN, findR, notRound, jumpK, jumpPT, jcode, List.map_cons, List.map_nil, ite_self, reduceIte]
      simp only [true_and, and_true, imp_self, implies_true, decide_eq_true_eq, decide_eq_false_iff_not, Nat.reduceAdd, Nat.reduceLeDiff, Bool.not_not, reduceCtorEq, false_imp_iff, Bool.not_eq_true', Bool.not_eq_false', Bool.false_eq_true, and_self, forall_const, ne_eq, not_false_eq_true, Nat.reduceEqDiff]
      refine ⟨fun hlt => ⟨a, ⟨padP_self hn ha, by omega⟩, b, ⟨padP_self hm hb, by omega⟩, by decide, by decide, ?_⟩, fun hge => ⟨a - b, ?_, ?_⟩⟩
      · have hd1 := dig_lt a i
        have hd2 := dig_lt b i
        have hd3 := dig_lt (a - b) i
        have hc := cy_le b (a - b) i
        have hc2 := cy_le b (a - b) (i + 1)
        obtain ⟨e1, e2, e3, e4⟩ := sub_dig hba i
        have f1 : IntKind.u64.wrap (4294967296 + (dig a i : Int)) = ((4294967296 + dig a i : Nat) : Int) := by rw [IntWalk.u64_in _ (by omega)]; simp
        rw [f1, u_sub (by omega) (by omega), u_sub (by omega) (by omega)]
        dsimp only [r_end, r_end1, r_nil, r_op, r_opg, r_runOp, r_op0, r_yld0, r_yld1, r_y, r_rbeg, r_rend, r_rend1, r_rfrm, r_rfrm1, r_range, r_rangeK, r_rangeE, r_draw, r_dnil, r_dop, r_dopg, r_dplq, r_dplh, r_dq, r_dq0, r_dcl1, r_dcl0, r_dct1, r_dct0, r_dgd, r_dgq1, r_dgq0, r_dctG, r_op1, r_eff, r_eff0, r_call, r_call0, r_inl, r_g, r_gq, r_gc, r_effg, r_effg0, r_callg, r_callg0, r_fin, r_pre, r_imp, r_all, r_ex, r_fing, r_preg, r_exg, r_inBlock, r_inLoop, r_frame, r_frame1, r_skip, r_stuck, r_region, r_seq, r_cond, r_cond1, r_block, r_exit, r_exit1, r_exit2, r_ret, r_loop, s_args0, s_args1, s_xt, s_xc, padL, blankL, callee, callArgs, eff, ctOf, getL, setL, S.put, S.upd, unopts, unopt, unoptsO, unoptsB, lazyO, guardOf, gbool, eMov, eNot, eNeg, eConv, eExt, eLenArr, eLen, eLenStr, eEqb, eEqv, allEq, eNil, negIf, eBool2, eCmp, eAri, ari, eBit, eDiv, eSh, eMinMax, foldMin, foldMax, kEq, pure1, cmpB, VO.quiet, resVals, resVal, tupled, popRet, popTo, cond, Option.bind, Option.map, eNew, eBox, asCells, lenH, snocH, eFieldAddr, eField, eLoad, cellsAt, getH, setH, dropL, takeL, mkAgg, lenL, lenS, shift, shiftL, shiftH, viewN, viewL, view, andT, junks, List.append_nil, Nat.beq, eIdxAddr, eIdxArr, idxN_0, idxN_1, idxN_2, idxN_3, eIndex, eStore, storeAt, spliceL, ones, one, eSlice, eSliceArr, bounds, subLo_z, addLo_z, subLo_one, addLo_one, eMake, eAppend, readS, repL, buildCells, chunk, purgeL, purgeLL, purgeH, purge, refs, refsL, List.cons_append, List.nil_append, wrOps, wrAl, wrDops, wrC, junkAt, putAll, putHs, headOf, headK, keepG, List.append_eq, headX, chkP, apartP, apartB, blk, strip, runAl, AL.ho, yld, putPs, lenN, findR, notRound, jumpK, jumpPT, jcode, List.map_cons, List.map_nil, ite_self, reduceIte]
        simp only [true_and, and_true, imp_self, implies_true, decide_eq_true_eq, decide_eq_false_iff_not, Nat.reduceAdd, Nat.reduceLeDiff, Bool.not_not, reduceCtorEq, false_imp_iff, Bool.not_eq_true', Bool.not_eq_false', Bool.false_eq_true, and_self, forall_const, ne_eq, not_false_eq_true, Nat.reduceEqDiff]
        refine ⟨⟨by unfold capOk; omega, fun j hj => ?_⟩, by decide, i + 1, by omega, by omega, ?_⟩
        · match j, hj with
          | 0, _ => exact ⟨rfl, trivial, trivial⟩
        · have f2 : ∀ q : Nat, q ≤ 1 → IntKind.u64.wrap (1 - (q : Int)) = ((1 - q : Nat) : Int) := fun q hq => by rw [IntWalk.u64_in _ (by omega)]; omega
          rw [u3_rem, u_quo (by omega), f2 _ (by omega), e1, e2, IntWalk.i64_in ((i : Int) + 1) (by omega)]
          simp only [leS_mk, leL_cons, leL_nil, le_junk, le_int, le_bool, le_nil, leLL_nil, leLL_cons, leH_cons, leH_nil, leH1_box, leH1_own, leH1_gone, le_vs, le_agg, le_tup, le_ptr, le_own, le_xp, le_fn, le_opt, le_val, le_elem, le_nil_own, le_nil_vs, leH_ghost, leL_chunk, leXL_id, bnd_int, bnd_bool, bnd_val, bnd_nil, bnd_junk, bnd_vs, bnd_xp, bnd_agg, bnd_tup, bnd_ptr, bnd_own, bnd_elem, bnd_fn, bnd_iface, bnd_opt, bndL_nil, bndL_cons, lenH_cons, lenH_nil, imp_self, implies_true, true_and, and_true]
          refine ⟨by simp, by simp, fun j hj => ?_⟩
          rcases Nat.lt_or_ge j i with h' | h'
          · rw [if_pos h']; simp only [leL, le, and_self]
          · obtain rfl : j = i := by omega
            rw [if_neg (Nat.lt_irrefl _), Nat.sub_self]
            simp only [purgeL, takeL, dropL, leL, Nat.zero_mul, purge, refs, cond, le, and_self]
      · obtain rfl : i = n := by omega
        exact padP_self hn (Nat.lt_of_le_of_lt (Nat.sub_le _ _) ha)
      · exact ans_natS (t := true) h
  · exact h.1.elim

theorem times_ok : timesC.ok Try.prog 71 := by
  refine contract Try.func71 v71_is R1_ok 300 timesC fun args k h => ?_
  simp only [timesC] at h
  split at h
  · rename_i t1 z1 n sz get t2 z2 m sz' get'
    obtain ⟨a, b, ⟨⟨rfl, hn, ha, hg⟩, ⟨rfl, hm, hb, hg'⟩, hnm⟩, h⟩ := h
    refine ⟨[.vs t1 z1 n 1 (fun k => [.int .u32 (dig a k)]), .vs t2 z2 m 1 (fun k => [.int .u32 (dig b k)])], ⟨by simpa [le] using hg, by simpa [le] using hg', trivial⟩, ?_⟩
    dsimp only [v71, r_end, r_end1, r_nil, r_op, r_opg, r_runOp, r_op0, r_yld0, r_yld1, r_y, r_rbeg, r_rend, r_rend1, r_rfrm, r_rfrm1, r_range, r_rangeK, r_rangeE, r_draw, r_dnil, r_dop, r_dopg, r_dplq, r_dplh, r_dq, r_dq0, r_dcl1, r_dcl0, r_dct1, r_dct0, r_dgd, r_dgq1, r_dgq0, r_dctG, r_op1, r_eff, r_eff0, r_call, r_call0, r_inl, r_g, r_gq, r_gc, r_effg, r_effg0, r_callg, r_callg0, r_fin, r_pre, r_imp, r_all, r_ex, r_fing, r_preg, r_exg, r_inBlock, r_inLoop, r_frame, r_frame1, r_skip, r_stuck, r_region, r_seq, r_cond, r_cond1, r_block, r_exit, r_exit1, r_exit2, r_ret, r_loop, s_args0, s_args1, s_xt, s_xc, padL, blankL, callee, callArgs, eff, ctOf, getL, setL, S.put, S.upd, unopts, unopt, unoptsO, unoptsB, lazyO, guardOf, gbool, eMov, eNot, eNeg, eConv, eExt, eLenArr, eLen, eLenStr, eEqb, eEqv, allEq, eNil, negIf, eBool2, eCmp, eAri, ari, eBit, eDiv, eSh, eMinMax, foldMin, foldMax, kEq, pure1, cmpB, VO.quiet, resVals, resVal, tupled, popRet, popTo, cond, Option.bind, Option.map, eNew, eBox, asCells, lenH, snocH, eFieldAddr, eField, eLoad, cellsAt, getH, setH, dropL, takeL, mkAgg, lenL, lenS, shift, shiftL, shiftH, viewN, viewL, view, andT, junks, List.append_nil, Nat.beq, eIdxAddr, eIdxArr, idxN_0, idxN_1, idxN_2, idxN_3, eIndex, eStore, storeAt, spliceL, ones, one, eSlice, eSliceArr, bounds, subLo_z, addLo_z, subLo_one, addLo_one, eMake, eAppend, readS, repL, buildCells, chunk, purgeL, purgeLL, purgeH, purge, refs, refsL, List.cons_append, List.nil_append, wrOps, wrAl, wrDops, wrC, junkAt, putAll, putHs, headOf, headK, keepG, List.append_eq, headX, chkP, apartP, apartB, blk, strip, runAl, AL.ho, yld, putPs, lenN, findR, notRound, jumpK, jumpPT, jcode, List.map_cons, List.map_nil, ite_self, reduceIte]
    simp only [true_and, and_true, imp_self, implies_true, decide_eq_true_eq, decide_eq_false_iff_not, Nat.reduceAdd, Nat.reduceLeDiff, Bool.not_not, reduceCtorEq, false_imp_iff, Bool.not_eq_true', Bool.not_eq_false', Bool.false_eq_true, and_self, forall_const, ne_eq, not_false_eq_true, Nat.reduceEqDiff]
    have en : IntKind.i64.wrap (IntKind.i64.wrap ((n : Int) + (m : Int)) + 1) = ((n + m + 1 : Nat) : Int) := by
      rw [IntWalk.i64_in ((n : Int) + m) (by omega), IntWalk.i64_in _ (by omega)]; omega
    rw [en]
    simp only [Int.toNat_natCast]
    refine ⟨⟨by decide, by omega, by unfold capOk; omega⟩, ?_⟩
    refine Loop.keep [0, 0, 3, 0] Nat (fun i => [(6, .int .i64 i)]) (fun i => [(0, .own false 1 (n + m + 1) (fun k => [.int .u32 (dig ((a % 4294967296 ^ i) * b) k)]))]) [] (fun i => i ≤ n) (fun i => n - i) ?_ ?_
    · refine ⟨0, by omega, ?_⟩
      dsimp only [r_end, r_end1, r_nil, r_op, r_opg, r_runOp, r_op0, r_yld0, r_yld1, r_y, r_rbeg, r_rend, r_rend1, r_rfrm, r_rfrm1, r_range, r_rangeK, r_rangeE, r_draw, r_dnil, r_dop, r_dopg, r_dplq, r_dplh, r_dq, r_dq0, r_dcl1, r_dcl0, r_dct1, r_dct0, r_dgd, r_dgq1, r_dgq0, r_dctG, r_op1, r_eff, r_eff0, r_call, r_call0, r_inl, r_g, r_gq, r_gc, r_effg, r_effg0, r_callg, r_callg0, r_fin, r_pre, r_imp, r_all, r_ex, r_fing, r_preg, r_exg, r_inBlock, r_inLoop, r_frame, r_frame1, r_skip, r_stuck, r_region, r_seq, r_cond, r_cond1, r_block, r_exit, r_exit1, r_exit2, r_ret, r_loop, s_args0, s_args1, s_xt, s_xc, padL, blankL, callee, callArgs, eff, ctOf, getL, setL, S.put, S.upd, unopts, unopt, unoptsO, unoptsB, lazyO, guardOf, gbool, eMov, eNot, eNeg, eConv, eExt, eLenArr, eLen, eLenStr, eEqb, eEqv, allEq, eNil, negIf, eBool2, eCmp, eAri, ari, eBit, eDiv, eSh, eMinMax, foldMin, foldMax, kEq, pure1, cmpB, VO.quiet, resVals, resVal, tupled, popRet, popTo, cond, Option.bind, Option.map, eNew, eBox, asCells, lenH, snocH, eFieldAddr, eField, eLoad, cellsAt, getH, setH, dropL, takeL, mkAgg, lenL, lenS, shift, shiftL, shiftH, viewN, viewL, view, andT, junks, List.append_nil, Nat.beq, eIdxAddr, eIdxArr, idxN_0, idxN_1, idxN_2, idxN_3, eIndex, eStore, storeAt, spliceL, ones, one, eSlice, eSliceArr, bounds, subLo_z, addLo_z, subLo_one, addLo_one, eMake, eAppend, readS, repL, buildCells, chunk, purgeL, purgeLL, purgeH, purge, refs, refsL, List.cons_append, List.nil_append, wrOps, wrAl, wrDops, wrC, junkAt, putAll, putHs, headOf, headK, keepG, List.append_eq, headX, chkP, apartP, apartB, blk, strip, runAl, AL.ho, yld, putPs, lenN, findR, notRound, jumpK, jumpPT, jcode, List.map_cons, List.map_nil, ite_self, reduceIte]
      simp only [leS_mk, leL_cons, leL_nil, le_junk, le_int, le_bool, le_nil, leLL_nil, leLL_cons, leH_cons, leH_nil, leH1_box, leH1_own, leH1_gone, le_vs, le_agg, le_tup, le_ptr, le_own, le_xp, le_fn, le_opt, le_val, le_elem, le_nil_own, le_nil_vs, leH_ghost, leL_chunk, leXL_id, bnd_int, bnd_bool, bnd_val, bnd_nil, bnd_junk, bnd_vs, bnd_xp, bnd_agg, bnd_tup, bnd_ptr, bnd_own, bnd_elem, bnd_fn, bnd_iface, bnd_opt, bndL_nil, bndL_cons, lenH_cons, lenH_nil, imp_self, implies_true, true_and, and_true]
      simp [Nat.mod_one, dig_zero, leL, le]
    · rintro i hi
      dsimp only [R1_ct81, R1_ct80, limbC, trimC, natS, Int.toNat_natCast, r_end, r_end1, r_nil, r_op, r_opg, r_runOp, r_op0, r_yld0, r_yld1, r_y, r_rbeg, r_rend, r_rend1, r_rfrm, r_rfrm1, r_range, r_rangeK, r_rangeE, r_draw, r_dnil, r_dop, r_dopg, r_dplq, r_dplh, r_dq, r_dq0, r_dcl1, r_dcl0, r_dct1, r_dct0, r_dgd, r_dgq1, r_dgq0, r_dctG, r_op1, r_eff, r_eff0, r_call, r_call0, r_inl, r_g, r_gq, r_gc, r_effg, r_effg0, r_callg, r_callg0, r_fin, r_pre, r_imp, r_all, r_ex, r_fing, r_preg, r_exg, r_inBlock, r_inLoop, r_frame, r_frame1, r_skip, r_stuck, r_region, r_seq, r_cond, r_cond1, r_block, r_exit, r_exit1, r_exit2, r_ret, r_loop, s_args0, s_args1, s_xt, s_xc, padL, blankL, callee, callArgs, eff, ctOf, getL, setL, S.put, S.upd, unopts, unopt, unoptsO, unoptsB, lazyO, guardOf, gbool, eMov, eNot, eNeg, eConv, eExt, eLenArr, eLen, eLenStr, eEqb, eEqv, allEq, eNil, negIf, eBool2, eCmp, eAri, ari, eBit, eDiv, eSh, eMinMax, foldMin, foldMax, kEq, pure1, cmpB, VO.quiet, resVals, resVal, tupled, popRet, popTo, cond, Option.bind, Option.map, eNew, eBox, asCells, lenH, snocH, eFieldAddr, eField, eLoad, cellsAt, getH, setH, dropL, takeL, mkAgg, lenL, lenS, shift, shiftL, shiftH, viewN, viewL, view, andT, junks, List.append_nil, Nat.beq, eIdxAddr, eIdxArr, idxN_0, idxN_1, idxN_2, idxN_3, eIndex, eStore, storeAt, spliceL, ones, one, eSlice, eSliceArr, bounds, subLo_z, addLo_z, subLo_one, addLo_one, eMake, eAppend, readS, repL, buildCells, chunk, purgeL, purgeLL, purgeH, purge, refs, refsL, List.cons_append, List.nil_append, wrOps, wrAl, wrDops, wrC, junkAt, putAll, putHs, headOf, headK, keepG, List.append_eq, headX, chkP, apartP, apartB, blk, strip, runAl, AL.ho, yld, putPs, lenN, findR, notRound, jumpK, jumpPT, jcode, List.map_cons, List.map_nil, ite_self, reduceIte]
      simp only [true_and, and_true, imp_self, implies_true, decide_eq_true_eq, decide_eq_false_iff_not, Nat.reduceAdd, Nat.reduceLeDiff, Bool.not_not, reduceCtorEq, false_imp_iff, Bool.not_eq_true', Bool.not_eq_false', Bool.false_eq_true, and_self, forall_const, ne_eq, not_false_eq_true, Nat.reduceEqDiff]
      refine ⟨fun hlt => ?_, fun hge => ?_⟩
      · refine Loop.keep [0, 0, 3, 0, 0, 0] (Nat × Nat × Nat) (fun x => [(7, .int .u64 x.2.2), (8, .int .i64 x.1)]) (fun x => [(0, .own false 1 (n + m + 1) (fun k => [.int .u32 (dig x.2.1 k)]))]) [] (fun x => x.1 ≤ m + 1 ∧ x.2.2 < 4294967296 ∧ x.2.1 < 4294967296 ^ (n + m + 1) ∧ x.2.1 + x.2.2 * 4294967296 ^ (i + x.1) = (a % 4294967296 ^ i) * b + dig a i * (b % 4294967296 ^ x.1) * 4294967296 ^ i) (fun x => m + 1 - x.1) ?_ ?_
        · refine ⟨(0, (a % 4294967296 ^ i) * b, 0), ⟨by simp only; omega, by simp only; omega, ?_, by simp [Nat.mod_one]⟩, ?_⟩
          · exact mul_lt hi ha hb
          · dsimp only [r_end, r_end1, r_nil, r_op, r_opg, r_runOp, r_op0, r_yld0, r_yld1, r_y, r_rbeg, r_rend, r_rend1, r_rfrm, r_rfrm1, r_range, r_rangeK, r_rangeE, r_draw, r_dnil, r_dop, r_dopg, r_dplq, r_dplh, r_dq, r_dq0, r_dcl1, r_dcl0, r_dct1, r_dct0, r_dgd, r_dgq1, r_dgq0, r_dctG, r_op1, r_eff, r_eff0, r_call, r_call0, r_inl, r_g, r_gq, r_gc, r_effg, r_effg0, r_callg, r_callg0, r_fin, r_pre, r_imp, r_all, r_ex, r_fing, r_preg, r_exg, r_inBlock, r_inLoop, r_frame, r_frame1, r_skip, r_stuck, r_region, r_seq, r_cond, r_cond1, r_block, r_exit, r_exit1, r_exit2, r_ret, r_loop, s_args0, s_args1, s_xt, s_xc, padL, blankL, callee, callArgs, eff, ctOf, getL, setL, S.put, S.upd, unopts, unopt, unoptsO, unoptsB, lazyO, guardOf, gbool, eMov, eNot, eNeg, eConv, eExt, eLenArr, eLen, eLenStr, eEqb, eEqv, allEq, eNil, negIf, eBool2, eCmp, eAri, ari, eBit, eDiv, eSh, eMinMax, foldMin, foldMax, kEq, pure1, cmpB, VO.quiet, resVals, resVal, tupled, popRet, popTo, cond, Option.bind, Option.map, eNew, eBox, asCells, lenH, snocH, eFieldAddr, eField, eLoad, cellsAt, getH, setH, dropL, takeL, mkAgg, lenL, lenS, shift, shiftL, shiftH, viewN, viewL, view, andT, junks, List.append_nil, Nat.beq, eIdxAddr, eIdxArr, idxN_0, idxN_1, idxN_2, idxN_3, eIndex, eStore, storeAt, spliceL, ones, one, eSlice, eSliceArr, bounds, subLo_z, addLo_z, subLo_one, addLo_one, eMake, eAppend, readS, repL, buildCells, chunk, purgeL, purgeLL, purgeH, purge, refs, refsL, List.cons_append, List.nil_append, wrOps, wrAl, wrDops, wrC, junkAt, putAll, putHs, headOf, headK, keepG, List.append_eq, headX, chkP, apartP, apartB, blk, strip, runAl, AL.ho, yld, putPs, lenN, findR, notRound, jumpK, jumpPT, jcode, List.map_cons, List.map_nil, ite_self, reduceIte]
            simp only [leS_mk, leL_cons, leL_nil, le_junk, le_int, le_bool, le_nil, leLL_nil, leLL_cons, leH_cons, leH_nil, leH1_box, leH1_own, leH1_gone, le_vs, le_agg, le_tup, le_ptr, le_own, le_xp, le_fn, le_opt, le_val, le_elem, le_nil_own, le_nil_vs, leH_ghost, leL_chunk, leXL_id, bnd_int, bnd_bool, bnd_val, bnd_nil, bnd_junk, bnd_vs, bnd_xp, bnd_agg, bnd_tup, bnd_ptr, bnd_own, bnd_elem, bnd_fn, bnd_iface, bnd_opt, bndL_nil, bndL_cons, lenH_cons, lenH_nil, imp_self, implies_true, true_and, and_true]
            simp [leL, le]
        · rintro ⟨t, V, c⟩ ⟨ht, hc, hV, he⟩
          dsimp only at ht hc hV he
          dsimp only [R1_ct81, R1_ct80, limbC, trimC, natS, Int.toNat_natCast, r_end, r_end1, r_nil, r_op, r_opg, r_runOp, r_op0, r_yld0, r_yld1, r_y, r_rbeg, r_rend, r_rend1, r_rfrm, r_rfrm1, r_range, r_rangeK, r_rangeE, r_draw, r_dnil, r_dop, r_dopg, r_dplq, r_dplh, r_dq, r_dq0, r_dcl1, r_dcl0, r_dct1, r_dct0, r_dgd, r_dgq1, r_dgq0, r_dctG, r_op1, r_eff, r_eff0, r_call, r_call0, r_inl, r_g, r_gq, r_gc, r_effg, r_effg0, r_callg, r_callg0, r_fin, r_pre, r_imp, r_all, r_ex, r_fing, r_preg, r_exg, r_inBlock, r_inLoop, r_frame, r_frame1, r_skip, r_stuck, r_region, r_seq, r_cond, r_cond1, r_block, r_exit, r_exit1, r_exit2, r_ret, r_loop, s_args0, s_args1, s_xt, s_xc, padL, blankL, callee, callArgs, eff, ctOf, getL, setL, S.put, S.upd, unopts, unopt, unoptsO, unoptsB, lazyO, guardOf, gbool, eMov, eNot, eNeg, eConv, eExt, eLenArr, eLen, eLenStr, eEqb, eEqv, allEq, eNil, negIf, eBool2, eCmp, eAri, ari, eBit, eDiv, eSh, eMinMax, foldMin, foldMax, kEq, pure1, cmpB, VO.quiet, resVals, resVal, tupled, popRet, popTo, cond, Option.bind, Option.map, eNew, eBox, asCells, lenH, snocH, eFieldAddr, eField, eLoad, cellsAt, getH, setH, dropL, takeL, mkAgg, lenL, lenS, shift, shiftL, shiftH, viewN, viewL, view, andT, junks, List.append_nil, Nat.beq, eIdxAddr, eIdxArr, idxN_0, idxN_1, idxN_2, idxN_3, eIndex, eStore, storeAt, spliceL, ones, one, eSlice, eSliceArr, bounds, subLo_z, addLo_z, subLo_one, addLo_one, eMake, eAppend, readS, repL, buildCells, chunk, purgeL, purgeLL, purgeH, purge, refs, refsL, List.cons_append, List.nil_append, wrOps, wrAl, wrDops, wrC, junkAt, putAll, putHs, headOf, headK, keepG, List.append_eq, headX, chkP, apartP, apartB, blk, strip, runAl, AL.ho, yld, putPs, lenN, findR, notRound, jumpK, jumpPT, jcode, List.map_cons, List.map_nil, ite_self, reduceIte]
          simp only [true_and, and_true, imp_self, implies_true, decide_eq_true_eq, decide_eq_false_iff_not, Nat.reduceAdd, Nat.reduceLeDiff, Bool.not_not, reduceCtorEq, false_imp_iff, Bool.not_eq_true', Bool.not_eq_false', Bool.false_eq_true, and_self, forall_const, ne_eq, not_false_eq_true, Nat.reduceEqDiff]
          rw [IntWalk.i64_in ((m : Int) + 1) (by omega)]
          refine ⟨fun hlt2 => ?_, fun hge2 => ?_⟩
          · have w1 : IntKind.i64.wrap ((i : Int) + (t : Int)) = ((i + t : Nat) : Int) := by rw [IntWalk.i64_in _ (by omega)]; simp
            rw [w1]
            simp only [Int.toNat_natCast]
            have hd0 := dig_lt V (i + t)
            obtain ⟨hb1, hb2⟩ := mul_bound hd0 (dig_lt a i) (dig_lt b t) hc
            have hs := mul_step he
            refine ⟨⟨by omega, by omega⟩, by omega, a, ⟨padP_self hn ha, by omega⟩, b, ⟨padP_self hm hb, by omega⟩, by decide, ⟨by omega, by omega⟩, by omega, by decide,
              (t + 1, setD V (i + t) ((dig V (i + t) + dig a i * dig b t + c) % 4294967296), (dig V (i + t) + dig a i * dig b t + c) / 4294967296), ⟨by simp only; omega, hb2, setD_lt hV (Nat.mod_lt _ (by decide)) (by omega), hs⟩, by simp only; omega, ?_⟩
            rw [u_nat (by omega : dig V (i + t) < 18446744073709551616), u_mul (by omega), u_add (by omega), u_add (by omega), u3_rem, u_quo (by omega), IntWalk.i64_in ((t : Int) + 1) (by omega)]
            simp only [leS_mk, leL_cons, leL_nil, le_junk, le_int, le_bool, le_nil, leLL_nil, leLL_cons, leH_cons, leH_nil, leH1_box, leH1_own, leH1_gone, le_vs, le_agg, le_tup, le_ptr, le_own, le_xp, le_fn, le_opt, le_val, le_elem, le_nil_own, le_nil_vs, leH_ghost, leL_chunk, leXL_id, bnd_int, bnd_bool, bnd_val, bnd_nil, bnd_junk, bnd_vs, bnd_xp, bnd_agg, bnd_tup, bnd_ptr, bnd_own, bnd_elem, bnd_fn, bnd_iface, bnd_opt, bndL_nil, bndL_cons, lenH_cons, lenH_nil, imp_self, implies_true, true_and, and_true]
            refine ⟨by simp, fun j hj => ?_⟩
            rw [dig_setD (Nat.mod_lt _ (by decide))]
            split <;> simp only [leL, le, and_self]
          · obtain rfl : t = m + 1 := by omega
            have hbm : b % 4294967296 ^ (m + 1) = b := Nat.mod_eq_of_lt (Nat.lt_of_lt_of_le hb (Nat.pow_le_pow_right (by decide) (by omega)))
            rw [hbm] at he
            have hrow : (a % 4294967296 ^ (i + 1)) * b = (a % 4294967296 ^ i) * b + dig a i * b * 4294967296 ^ i := by
              rw [mod_pw, Nat.add_mul, Nat.mul_assoc, Nat.mul_comm (4294967296 ^ i)]
            rw [← hrow] at he
            have hlt3 : (a % 4294967296 ^ (i + 1)) * b < 4294967296 ^ (i + (m + 1)) := by
              have h1 := Nat.mod_lt a (pw_pos (i + 1))
              have h2 : (a % 4294967296 ^ (i + 1)) * b ≤ (a % 4294967296 ^ (i + 1)) * 4294967296 ^ m := Nat.mul_le_mul_left _ (Nat.le_of_lt hb)
              have h3 : (a % 4294967296 ^ (i + 1)) * 4294967296 ^ m < 4294967296 ^ (i + 1) * 4294967296 ^ m := Nat.mul_lt_mul_of_pos_right h1 (pw_pos m)
              rw [← Nat.pow_add, show i + 1 + m = i + (m + 1) by omega] at h3
              omega
            obtain rfl : c = 0 := by
              rcases Nat.eq_zero_or_pos c with h0 | h0
              · exact h0
              · have : 1 * 4294967296 ^ (i + (m + 1)) ≤ c * 4294967296 ^ (i + (m + 1)) := Nat.mul_le_mul_right _ h0
                omega
            rw [Nat.zero_mul, Nat.add_zero] at he
            refine ⟨i + 1, by omega, by omega, ?_⟩
            rw [he, IntWalk.i64_in ((i : Int) + 1) (by omega)]
            simp only [leS_mk, leL_cons, leL_nil, le_junk, le_int, le_bool, le_nil, leLL_nil, leLL_cons, leH_cons, leH_nil, leH1_box, leH1_own, leH1_gone, le_vs, le_agg, le_tup, le_ptr, le_own, le_xp, le_fn, le_opt, le_val, le_elem, le_nil_own, le_nil_vs, leH_ghost, leL_chunk, leXL_id, bnd_int, bnd_bool, bnd_val, bnd_nil, bnd_junk, bnd_vs, bnd_xp, bnd_agg, bnd_tup, bnd_ptr, bnd_own, bnd_elem, bnd_fn, bnd_iface, bnd_opt, bndL_nil, bndL_cons, lenH_cons, lenH_nil, imp_self, implies_true, true_and, and_true]
            simp [leL, le]
      · obtain rfl : i = n := by omega
        refine ⟨a * b, ?_, ans_natS (t := true) h⟩
        rw [Nat.mod_eq_of_lt ha]
        exact padP_self (by omega) (by have := mul_lt (Nat.le_refl i) ha hb; rwa [Nat.mod_eq_of_lt ha] at this)
  · exact h.1.elim
end Go.Proofs.Ytdognchniaojoaa
