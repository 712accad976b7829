/- Intervals, walked: the reference's functions without fractions. -/
import Derived.Test.YtdognchniaojoaaMgX7e
import Derived.Test.YtdognchniaojoaaMgX7d
import Derived.Test.YtdognchniaojoaaRows
set_option linter.all false
namespace Go.Proofs.Ytdognchniaojoaa
open Go Go.Vx
set_option maxRecDepth 100000
set_option maxHeartbeats 4000000

def v65 : VF := { ntmps := 58, res := [.tmp 2], body :=
 (.seq (.region [⟨(some 2), none, .mov, [.cn (.int .i64 0)]⟩])
 (.seq (.seq (.region [⟨(some 3), none, .mov, [.cn (.int .i64 0)]⟩])
 (.block 0 (.loop (.seq (.seq (.region [⟨(some 5), none, .mov, [.tm 3]⟩,
  ⟨(some 6), none, .mov, [.tm 0]⟩,
  ⟨(some 7), none, .len, [.tm 6]⟩,
  ⟨(some 8), none, (.cmp .lss), [.tm 5, .tm 7]⟩])
 (.cond (.tm 8) .skip
  (.exit 0)))
 (.seq (.block 1 (.seq (.region [⟨(some 11), none, .mov, [.tm 0]⟩,
  ⟨(some 12), none, .mov, [.tm 3]⟩,
  ⟨(some 13), none, (.idxAddr 2), [.tm 11, .tm 12]⟩,
  ⟨(some 14), none, (.fieldAddr 0), [.tm 13]⟩,
  ⟨(some 15), none, (.load false 1), [.tm 14]⟩,
  ⟨(some 16), none, (.cmp .lss), [.tm 15, .cn (.int .i64 (-4611686018427387904))]⟩,
  ⟨(some 17), none, .mov, [.tm 16]⟩,
  ⟨(some 18), (some (17, false)), .mov, [.tm 0]⟩,
  ⟨(some 19), (some (17, false)), .mov, [.tm 3]⟩,
  ⟨(some 20), (some (17, false)), (.idxAddr 2), [.tm 18, .tm 19]⟩,
  ⟨(some 21), (some (17, false)), (.fieldAddr 0), [.tm 20]⟩,
  ⟨(some 22), (some (17, false)), (.load false 1), [.tm 21]⟩,
  ⟨(some 23), (some (17, false)), (.cmp .gtr), [.tm 22, .cn (.int .i64 4611686018427387904)]⟩,
  ⟨(some 24), none, .or, [.tm 17, .tm 23]⟩,
  ⟨(some 25), none, .mov, [.tm 24]⟩,
  ⟨(some 26), (some (25, false)), .mov, [.tm 0]⟩,
  ⟨(some 27), (some (25, false)), .mov, [.tm 3]⟩,
  ⟨(some 28), (some (25, false)), (.idxAddr 2), [.tm 26, .tm 27]⟩,
  ⟨(some 29), (some (25, false)), (.fieldAddr 1), [.tm 28]⟩,
  ⟨(some 30), (some (25, false)), (.load false 1), [.tm 29]⟩,
  ⟨(some 31), (some (25, false)), (.cmp .lss), [.tm 30, .cn (.int .i64 (-4611686018427387904))]⟩,
  ⟨(some 32), none, .or, [.tm 25, .tm 31]⟩,
  ⟨(some 33), none, .mov, [.tm 32]⟩,
  ⟨(some 34), (some (33, false)), .mov, [.tm 0]⟩,
  ⟨(some 35), (some (33, false)), .mov, [.tm 3]⟩,
  ⟨(some 36), (some (33, false)), (.idxAddr 2), [.tm 34, .tm 35]⟩,
  ⟨(some 37), (some (33, false)), (.fieldAddr 1), [.tm 36]⟩,
  ⟨(some 38), (some (33, false)), (.load false 1), [.tm 37]⟩,
  ⟨(some 39), (some (33, false)), (.cmp .gtr), [.tm 38, .cn (.int .i64 4611686018427387904)]⟩,
  ⟨(some 40), none, .or, [.tm 33, .tm 39]⟩])
 (.cond (.tm 40) (.seq (.region [⟨(some 2), none, .mov, [.cn (.int .i64 7)]⟩])
 .ret)
  .skip)))
 (.region [⟨(some 9), none, .mov, [.tm 3]⟩,
  ⟨(some 10), none, (.ari .add), [.tm 9, .cn (.int .i64 1)]⟩,
  ⟨(some 3), none, .mov, [.tm 10]⟩]))))))
 (.seq (.seq (.region [⟨(some 4), none, .mov, [.cn (.int .i64 0)]⟩])
 (.block 2 (.loop (.seq (.seq (.region [⟨(some 41), none, .mov, [.tm 4]⟩,
  ⟨(some 42), none, .mov, [.tm 0]⟩,
  ⟨(some 43), none, .len, [.tm 42]⟩,
  ⟨(some 44), none, (.cmp .lss), [.tm 41, .tm 43]⟩])
 (.cond (.tm 44) .skip
  (.exit 2)))
 (.seq (.block 3 (.seq (.draw [] [⟨⟨(some 47), none, .mov, [.tm 0]⟩, []⟩,
  ⟨⟨(some 48), none, .mov, [.tm 4]⟩, []⟩,
  ⟨⟨(some 49), none, (.idxAddr 2), [.tm 47, .tm 48]⟩, []⟩,
  ⟨⟨(some 50), none, (.fieldAddr 0), [.tm 49]⟩, []⟩,
  ⟨⟨(some 51), none, (.load false 1), [.tm 50]⟩, []⟩,
  ⟨⟨(some 52), none, .mov, [.tm 0]⟩, []⟩,
  ⟨⟨(some 53), none, .mov, [.tm 4]⟩, []⟩,
  ⟨⟨(some 54), none, (.idxAddr 2), [.tm 52, .tm 53]⟩, []⟩,
  ⟨⟨(some 55), none, (.fieldAddr 1), [.tm 54]⟩, []⟩,
  ⟨⟨(some 56), none, (.load false 1), [.tm 55]⟩, []⟩,
  ⟨⟨(some 57), none, (.cmp .gtr), [.tm 51, .tm 56]⟩, []⟩])
 (.cond (.tm 57) (.seq (.region [⟨(some 2), none, .mov, [.cn (.int .i64 2)]⟩])
 .ret)
  .skip)))
 (.region [⟨(some 45), none, .mov, [.tm 4]⟩,
  ⟨(some 46), none, (.ari .add), [.tm 45, .cn (.int .i64 1)]⟩,
  ⟨(some 4), none, .mov, [.tm 46]⟩]))))))
 (.seq (.region [⟨(some 2), none, .mov, [.cn (.int .i64 0)]⟩])
 .ret)))) }
theorem v65_is : vfunc Try.prog Try.f65 = some v65 := by kernel_rfl
def v33 : VF := { ntmps := 6, res := [.tmp 2], body :=
 (.seq (.region [⟨(some 1), none, .box, [.tm 0]⟩,
  ⟨(some 2), none, .mov, [.cn (.int .i64 0)]⟩])
 (.seq (.region [⟨(some 3), none, (.load true 2), [.tm 1]⟩,
  ⟨(some 4), none, (.buildSlice 2 1 [(.int .i64 0), (.int .i64 0)] [(0, 2)]), [.tm 3]⟩,
  ⟨(some 5), none, (.call 65), [.tm 4]⟩,
  ⟨(some 2), none, .mov, [.tm 5]⟩])
 .ret)) }
theorem v33_is : vfunc Try.prog Try.f33 = some v33 := by kernel_rfl
def v37 : VF := { ntmps := 26, res := [.cell 4 true 2, .tmp 5], body :=
 (.seq (.region [⟨(some 2), none, .box, [.tm 0]⟩,
  ⟨(some 3), none, .box, [.tm 1]⟩,
  ⟨(some 4), none, (.alloc [(.int .i64 0), (.int .i64 0)]), []⟩,
  ⟨(some 5), none, .mov, [.cn (.int .i64 0)]⟩])
 (.seq (.region [⟨(some 7), none, (.load true 2), [.tm 2]⟩,
  ⟨(some 8), none, (.load true 2), [.tm 3]⟩,
  ⟨(some 9), none, (.buildSlice 2 2 [(.int .i64 0), (.int .i64 0)] [(0, 2), (2, 2)]), [.tm 7, .tm 8]⟩,
  ⟨(some 10), none, (.call 65), [.tm 9]⟩,
  ⟨(some 6), none, .mov, [.tm 10]⟩])
 (.seq (.seq (.region [⟨(some 11), none, .mov, [.tm 6]⟩,
  ⟨(some 12), none, (.cmp .neq), [.tm 11, .cn (.int .i64 0)]⟩])
 (.cond (.tm 12) (.seq (.region [⟨(some 13), none, (.build [(.int .i64 0), (.int .i64 0)] []), []⟩,
  ⟨(some 14), none, .mov, [.tm 6]⟩,
  ⟨none, none, (.store 2), [.tm 4, .tm 13]⟩,
  ⟨(some 5), none, .mov, [.tm 14]⟩])
 .ret)
  .skip))
 (.seq (.region [⟨(some 15), none, (.fieldAddr 0), [.tm 2]⟩,
  ⟨(some 16), none, (.load false 1), [.tm 15]⟩,
  ⟨(some 17), none, (.fieldAddr 0), [.tm 3]⟩,
  ⟨(some 18), none, (.load false 1), [.tm 17]⟩,
  ⟨(some 19), none, .min, [.tm 16, .tm 18]⟩,
  ⟨(some 20), none, (.fieldAddr 1), [.tm 2]⟩,
  ⟨(some 21), none, (.load false 1), [.tm 20]⟩,
  ⟨(some 22), none, (.fieldAddr 1), [.tm 3]⟩,
  ⟨(some 23), none, (.load false 1), [.tm 22]⟩,
  ⟨(some 24), none, .max, [.tm 21, .tm 23]⟩,
  ⟨(some 25), none, (.build [(.int .i64 0), (.int .i64 0)] [(0, 1), (1, 1)]), [.tm 19, .tm 24]⟩,
  ⟨none, none, (.store 2), [.tm 4, .tm 25]⟩,
  ⟨(some 5), none, .mov, [.cn (.int .i64 0)]⟩])
 .ret)))) }
theorem v37_is : vfunc Try.prog Try.f37 = some v37 := by kernel_rfl
def v39 : VF := { ntmps := 34, res := [.cell 4 true 2, .tmp 5], body :=
 (.seq (.region [⟨(some 2), none, .box, [.tm 0]⟩,
  ⟨(some 3), none, .box, [.tm 1]⟩,
  ⟨(some 4), none, (.alloc [(.int .i64 0), (.int .i64 0)]), []⟩,
  ⟨(some 5), none, .mov, [.cn (.int .i64 0)]⟩])
 (.seq (.region [⟨(some 8), none, (.load true 2), [.tm 2]⟩,
  ⟨(some 9), none, (.load true 2), [.tm 3]⟩,
  ⟨(some 10), none, (.buildSlice 2 2 [(.int .i64 0), (.int .i64 0)] [(0, 2), (2, 2)]), [.tm 8, .tm 9]⟩,
  ⟨(some 11), none, (.call 65), [.tm 10]⟩,
  ⟨(some 6), none, .mov, [.tm 11]⟩])
 (.seq (.seq (.region [⟨(some 12), none, .mov, [.tm 6]⟩,
  ⟨(some 13), none, (.cmp .neq), [.tm 12, .cn (.int .i64 0)]⟩])
 (.cond (.tm 13) (.seq (.region [⟨(some 14), none, (.build [(.int .i64 0), (.int .i64 0)] []), []⟩,
  ⟨(some 15), none, .mov, [.tm 6]⟩,
  ⟨none, none, (.store 2), [.tm 4, .tm 14]⟩,
  ⟨(some 5), none, .mov, [.tm 15]⟩])
 .ret)
  .skip))
 (.seq (.region [⟨(some 16), none, (.fieldAddr 0), [.tm 2]⟩,
  ⟨(some 17), none, (.load false 1), [.tm 16]⟩,
  ⟨(some 18), none, (.fieldAddr 0), [.tm 3]⟩,
  ⟨(some 19), none, (.load false 1), [.tm 18]⟩,
  ⟨(some 20), none, .max, [.tm 17, .tm 19]⟩,
  ⟨(some 21), none, (.fieldAddr 1), [.tm 2]⟩,
  ⟨(some 22), none, (.load false 1), [.tm 21]⟩,
  ⟨(some 23), none, (.fieldAddr 1), [.tm 3]⟩,
  ⟨(some 24), none, (.load false 1), [.tm 23]⟩,
  ⟨(some 25), none, .min, [.tm 22, .tm 24]⟩,
  ⟨(some 26), none, (.build [(.int .i64 0), (.int .i64 0)] [(0, 1), (1, 1)]), [.tm 20, .tm 25]⟩,
  ⟨(some 7), none, (.alloc [(.int .i64 0), (.int .i64 0)]), []⟩,
  ⟨none, none, (.store 2), [.tm 7, .tm 26]⟩])
 (.seq (.seq (.region [⟨(some 27), none, (.fieldAddr 0), [.tm 7]⟩,
  ⟨(some 28), none, (.load false 1), [.tm 27]⟩,
  ⟨(some 29), none, (.fieldAddr 1), [.tm 7]⟩,
  ⟨(some 30), none, (.load false 1), [.tm 29]⟩,
  ⟨(some 31), none, (.cmp .gtr), [.tm 28, .tm 30]⟩])
 (.cond (.tm 31) (.seq (.region [⟨(some 32), none, (.build [(.int .i64 0), (.int .i64 0)] []), []⟩,
  ⟨none, none, (.store 2), [.tm 4, .tm 32]⟩,
  ⟨(some 5), none, .mov, [.cn (.int .i64 4)]⟩])
 .ret)
  .skip))
 (.seq (.region [⟨(some 33), none, (.load true 2), [.tm 7]⟩,
  ⟨none, none, (.store 2), [.tm 4, .tm 33]⟩,
  ⟨(some 5), none, .mov, [.cn (.int .i64 0)]⟩])
 .ret)))))) }
theorem v39_is : vfunc Try.prog Try.f39 = some v39 := by kernel_rfl
def v41 : VF := { ntmps := 24, res := [.tmp 4, .tmp 5], body :=
 (.seq (.region [⟨(some 2), none, .box, [.tm 0]⟩,
  ⟨(some 3), none, .box, [.tm 1]⟩,
  ⟨(some 4), none, .mov, [.cn (.int .i64 0)]⟩,
  ⟨(some 5), none, .mov, [.cn (.int .i64 0)]⟩])
 (.seq (.region [⟨(some 7), none, (.load true 2), [.tm 2]⟩,
  ⟨(some 8), none, (.load true 2), [.tm 3]⟩,
  ⟨(some 9), none, (.buildSlice 2 2 [(.int .i64 0), (.int .i64 0)] [(0, 2), (2, 2)]), [.tm 7, .tm 8]⟩,
  ⟨(some 10), none, (.call 65), [.tm 9]⟩,
  ⟨(some 6), none, .mov, [.tm 10]⟩])
 (.seq (.seq (.region [⟨(some 11), none, .mov, [.tm 6]⟩,
  ⟨(some 12), none, (.cmp .neq), [.tm 11, .cn (.int .i64 0)]⟩])
 (.cond (.tm 12) (.seq (.region [⟨(some 13), none, .mov, [.tm 6]⟩,
  ⟨(some 4), none, .mov, [.cn (.int .i64 0)]⟩,
  ⟨(some 5), none, .mov, [.tm 13]⟩])
 .ret)
  .skip))
 (.seq (.seq (.region [⟨(some 14), none, (.fieldAddr 1), [.tm 2]⟩,
  ⟨(some 15), none, (.load false 1), [.tm 14]⟩,
  ⟨(some 16), none, (.fieldAddr 0), [.tm 3]⟩,
  ⟨(some 17), none, (.load false 1), [.tm 16]⟩,
  ⟨(some 18), none, (.cmp .lss), [.tm 15, .tm 17]⟩])
 (.cond (.tm 18) (.seq (.region [⟨(some 4), none, .mov, [.cn (.int .i64 (-1))]⟩,
  ⟨(some 5), none, .mov, [.cn (.int .i64 0)]⟩])
 .ret)
  .skip))
 (.seq (.seq (.region [⟨(some 19), none, (.fieldAddr 0), [.tm 2]⟩,
  ⟨(some 20), none, (.load false 1), [.tm 19]⟩,
  ⟨(some 21), none, (.fieldAddr 1), [.tm 3]⟩,
  ⟨(some 22), none, (.load false 1), [.tm 21]⟩,
  ⟨(some 23), none, (.cmp .gtr), [.tm 20, .tm 22]⟩])
 (.cond (.tm 23) (.seq (.region [⟨(some 4), none, .mov, [.cn (.int .i64 1)]⟩,
  ⟨(some 5), none, .mov, [.cn (.int .i64 0)]⟩])
 .ret)
  .skip))
 (.seq (.region [⟨(some 4), none, .mov, [.cn (.int .i64 0)]⟩,
  ⟨(some 5), none, .mov, [.cn (.int .i64 0)]⟩])
 .ret)))))) }
theorem v41_is : vfunc Try.prog Try.f41 = some v41 := by kernel_rfl


theorem num_or {a b : Int} : (decide (a < -4611686018427387904) || decide (4611686018427387904 < a) || decide (b < -4611686018427387904) || decide (4611686018427387904 < b)) = !(numOk a && numOk b) := by
  rw [Bool.eq_iff_iff]
  simp only [numOk, Bool.or_eq_true, decide_eq_true_eq, Bool.not_eq_true', Bool.and_eq_false_iff, decide_eq_false_iff_not]
  omega

theorem rbad_ok : ivlC.ok Try.prog 65 := by
  refine contract Try.func65 v65_is P1_ok 400 ivlC fun args k h => ?_
  simp only [ivlC] at h
  split at h
  · rename_i tt z n sz get
    obtain ⟨l, ⟨⟨rfl, rfl, hg⟩, hmax⟩, h⟩ := h
    refine ⟨[.vs tt z l.length 2 (fun k => enc2 (l.getD k default))], by simpa [leL, le] using hg, ?_⟩
    dsimp only [v65, enc2, r_end, r_end1, r_nil, r_op, r_opg, r_runOp, r_op0, r_yld0, r_yld1, r_y, r_rbeg, r_rend, r_rend1, r_rfrm, r_rfrm1, r_range, r_rangeK, r_rangeE, r_draw, r_dnil, r_dop, r_dopg, r_dplq, r_dplh, r_dq, r_dq0, r_dcl1, r_dcl0, r_dct1, r_dct0, r_dgd, r_dgq1, r_dgq0, r_dctG, r_op1, r_eff, r_eff0, r_call, r_call0, r_inl, r_g, r_gq, r_gc, r_effg, r_effg0, r_callg, r_callg0, r_fin, r_pre, r_imp, r_all, r_ex, r_fing, r_preg, r_exg, r_inBlock, r_inLoop, r_frame, r_frame1, r_skip, r_stuck, r_region, r_seq, r_cond, r_cond1, r_block, r_exit, r_exit1, r_exit2, r_ret, r_loop, s_args0, s_args1, s_xt, s_xc, padL, blankL, callee, callArgs, eff, ctOf, getL, setL, S.put, S.upd, unopts, unopt, unoptsO, unoptsB, lazyO, guardOf, gbool, eMov, eNot, eNeg, eConv, eExt, eLenArr, eLen, eLenStr, eEqb, eEqv, allEq, eNil, negIf, eBool2, eCmp, eAri, ari, eBit, eDiv, eSh, eMinMax, foldMin, foldMax, kEq, pure1, cmpB, VO.quiet, resVals, resVal, tupled, popRet, popTo, cond, Option.bind, Option.map, eNew, eBox, asCells, lenH, snocH, eFieldAddr, eField, eLoad, cellsAt, getH, setH, dropL, takeL, mkAgg, lenL, lenS, shift, shiftL, shiftH, viewN, viewL, view, andT, junks, List.append_nil, Nat.beq, eIdxAddr, eIdxArr, idxN_0, idxN_1, idxN_2, idxN_3, eIndex, eStore, storeAt, spliceL, ones, one, eSlice, eSliceArr, bounds, subLo_z, addLo_z, subLo_one, addLo_one, eMake, eAppend, readS, repL, buildCells, chunk, purgeL, purgeLL, purgeH, purge, refs, refsL, List.cons_append, List.nil_append, wrOps, wrAl, wrDops, wrC, junkAt, putAll, putHs, headOf, headK, keepG, List.append_eq, headX, chkP, apartP, apartB, blk, strip, runAl, AL.ho, yld, putPs, lenN, findR, notRound, jumpK, jumpPT, jcode, List.map_cons, List.map_nil, ite_self, reduceIte]
    simp only [true_and, and_true, imp_self, implies_true, decide_eq_true_eq, decide_eq_false_iff_not, Nat.reduceAdd, Nat.reduceLeDiff, Bool.not_not, reduceCtorEq, false_imp_iff, Bool.not_eq_true', Bool.not_eq_false', Bool.false_eq_true, and_self, forall_const, ne_eq, not_false_eq_true, Nat.reduceEqDiff]
    refine Loop.keep [0, 2] Nat (fun i => [(3, .int .i64 i)]) (fun _ => []) [] (fun i => i ≤ l.length ∧ ∀ j, j < i → (numOk (l.getD j default).1 && numOk (l.getD j default).2) = true) (fun i => l.length - i) ?_ ?_
    · refine ⟨0, ⟨Nat.zero_le _, fun j h => by omega⟩, ?_⟩
      dsimp only [r_end, r_end1, r_nil, r_op, r_opg, r_runOp, r_op0, r_yld0, r_yld1, r_y, r_rbeg, r_rend, r_rend1, r_rfrm, r_rfrm1, r_range, r_rangeK, r_rangeE, r_draw, r_dnil, r_dop, r_dopg, r_dplq, r_dplh, r_dq, r_dq0, r_dcl1, r_dcl0, r_dct1, r_dct0, r_dgd, r_dgq1, r_dgq0, r_dctG, r_op1, r_eff, r_eff0, r_call, r_call0, r_inl, r_g, r_gq, r_gc, r_effg, r_effg0, r_callg, r_callg0, r_fin, r_pre, r_imp, r_all, r_ex, r_fing, r_preg, r_exg, r_inBlock, r_inLoop, r_frame, r_frame1, r_skip, r_stuck, r_region, r_seq, r_cond, r_cond1, r_block, r_exit, r_exit1, r_exit2, r_ret, r_loop, s_args0, s_args1, s_xt, s_xc, padL, blankL, callee, callArgs, eff, ctOf, getL, setL, S.put, S.upd, unopts, unopt, unoptsO, unoptsB, lazyO, guardOf, gbool, eMov, eNot, eNeg, eConv, eExt, eLenArr, eLen, eLenStr, eEqb, eEqv, allEq, eNil, negIf, eBool2, eCmp, eAri, ari, eBit, eDiv, eSh, eMinMax, foldMin, foldMax, kEq, pure1, cmpB, VO.quiet, resVals, resVal, tupled, popRet, popTo, cond, Option.bind, Option.map, eNew, eBox, asCells, lenH, snocH, eFieldAddr, eField, eLoad, cellsAt, getH, setH, dropL, takeL, mkAgg, lenL, lenS, shift, shiftL, shiftH, viewN, viewL, view, andT, junks, List.append_nil, Nat.beq, eIdxAddr, eIdxArr, idxN_0, idxN_1, idxN_2, idxN_3, eIndex, eStore, storeAt, spliceL, ones, one, eSlice, eSliceArr, bounds, subLo_z, addLo_z, subLo_one, addLo_one, eMake, eAppend, readS, repL, buildCells, chunk, purgeL, purgeLL, purgeH, purge, refs, refsL, List.cons_append, List.nil_append, wrOps, wrAl, wrDops, wrC, junkAt, putAll, putHs, headOf, headK, keepG, List.append_eq, headX, chkP, apartP, apartB, blk, strip, runAl, AL.ho, yld, putPs, lenN, findR, notRound, jumpK, jumpPT, jcode, List.map_cons, List.map_nil, ite_self, reduceIte]
      simp only [leS_mk, leL_cons, leL_nil, le_junk, le_int, le_bool, le_nil, leLL_nil, leLL_cons, leH_cons, leH_nil, leH1_box, leH1_own, leH1_gone, le_vs, le_agg, le_tup, le_ptr, le_own, le_xp, le_fn, le_opt, le_val, le_elem, le_nil_own, le_nil_vs, leH_ghost, leL_chunk, leXL_id, bnd_int, bnd_bool, bnd_val, bnd_nil, bnd_junk, bnd_vs, bnd_xp, bnd_agg, bnd_tup, bnd_ptr, bnd_own, bnd_elem, bnd_fn, bnd_iface, bnd_opt, bndL_nil, bndL_cons, lenH_cons, lenH_nil, imp_self, implies_true, true_and, and_true]
      simp
    · rintro i ⟨hi, ha⟩
      dsimp only [enc2, Int.toNat_natCast, r_end, r_end1, r_nil, r_op, r_opg, r_runOp, r_op0, r_yld0, r_yld1, r_y, r_rbeg, r_rend, r_rend1, r_rfrm, r_rfrm1, r_range, r_rangeK, r_rangeE, r_draw, r_dnil, r_dop, r_dopg, r_dplq, r_dplh, r_dq, r_dq0, r_dcl1, r_dcl0, r_dct1, r_dct0, r_dgd, r_dgq1, r_dgq0, r_dctG, r_op1, r_eff, r_eff0, r_call, r_call0, r_inl, r_g, r_gq, r_gc, r_effg, r_effg0, r_callg, r_callg0, r_fin, r_pre, r_imp, r_all, r_ex, r_fing, r_preg, r_exg, r_inBlock, r_inLoop, r_frame, r_frame1, r_skip, r_stuck, r_region, r_seq, r_cond, r_cond1, r_block, r_exit, r_exit1, r_exit2, r_ret, r_loop, s_args0, s_args1, s_xt, s_xc, padL, blankL, callee, callArgs, eff, ctOf, getL, setL, S.put, S.upd, unopts, unopt, unoptsO, unoptsB, lazyO, guardOf, gbool, eMov, eNot, eNeg, eConv, eExt, eLenArr, eLen, eLenStr, eEqb, eEqv, allEq, eNil, negIf, eBool2, eCmp, eAri, ari, eBit, eDiv, eSh, eMinMax, foldMin, foldMax, kEq, pure1, cmpB, VO.quiet, resVals, resVal, tupled, popRet, popTo, cond, Option.bind, Option.map, eNew, eBox, asCells, lenH, snocH, eFieldAddr, eField, eLoad, cellsAt, getH, setH, dropL, takeL, mkAgg, lenL, lenS, shift, shiftL, shiftH, viewN, viewL, view, andT, junks, List.append_nil, Nat.beq, eIdxAddr, eIdxArr, idxN_0, idxN_1, idxN_2, idxN_3, eIndex, eStore, storeAt, spliceL, ones, one, eSlice, eSliceArr, bounds, subLo_z, addLo_z, subLo_one, addLo_one, eMake, eAppend, readS, repL, buildCells, chunk, purgeL, purgeLL, purgeH, purge, refs, refsL, List.cons_append, List.nil_append, wrOps, wrAl, wrDops, wrC, junkAt, putAll, putHs, headOf, headK, keepG, List.append_eq, headX, chkP, apartP, apartB, blk, strip, runAl, AL.ho, yld, putPs, lenN, findR, notRound, jumpK, jumpPT, jcode, List.map_cons, List.map_nil, ite_self, reduceIte]
      simp only [true_and, and_true, imp_self, implies_true, decide_eq_true_eq, decide_eq_false_iff_not, Nat.reduceAdd, Nat.reduceLeDiff, Bool.not_not, reduceCtorEq, false_imp_iff, Bool.not_eq_true', Bool.not_eq_false', Bool.false_eq_true, and_self, forall_const, ne_eq, not_false_eq_true, Nat.reduceEqDiff]
      simp only [num_or]
      refine ⟨fun hlt => ⟨⟨by omega, hlt⟩, fun _ => ⟨by omega, hlt⟩, fun _ => ⟨by omega, hlt⟩, fun _ => ⟨by omega, hlt⟩, fun hb => ans_int ?_, fun hb => ?_⟩, fun hge => ?_⟩
      · have e := ivE_bad (l := l) (i := i) (by omega) (by rw [Bool.not_eq_true'] at hb; exact hb)
        rw [e] at h; exact h
      · refine ⟨i + 1, ⟨by omega, fun j hj => ?_⟩, by omega, ?_⟩
        · rcases Nat.lt_or_ge j i with h' | h'
          · exact ha j h'
          · obtain rfl : j = i := by omega
            simpa using hb
        · have hw := w_succ (i := i) (n := l.length) (by omega) (by omega)
          simp only [hw, leS_mk, leL_cons, leL_nil, le_junk, le_int, le_bool, le_nil, leLL_nil, leLL_cons, leH_cons, leH_nil, leH1_box, leH1_own, leH1_gone, le_vs, le_agg, le_tup, le_ptr, le_own, le_xp, le_fn, le_opt, le_val, le_elem, le_nil_own, le_nil_vs, leH_ghost, leL_chunk, leXL_id, bnd_int, bnd_bool, bnd_val, bnd_nil, bnd_junk, bnd_vs, bnd_xp, bnd_agg, bnd_tup, bnd_ptr, bnd_own, bnd_elem, bnd_fn, bnd_iface, bnd_opt, bndL_nil, bndL_cons, lenH_cons, lenH_nil, imp_self, implies_true, true_and, and_true] <;> simp
      · obtain rfl : i = l.length := by omega
        refine Loop.keep [0, 3] Nat (fun i => [(4, .int .i64 i)]) (fun _ => []) [] (fun i => i ≤ l.length ∧ ∀ j, j < i → (l.getD j default).1 ≤ (l.getD j default).2) (fun i => l.length - i) ?_ ?_
        · refine ⟨0, ⟨Nat.zero_le _, fun j h => by omega⟩, ?_⟩
          dsimp only [r_end, r_end1, r_nil, r_op, r_opg, r_runOp, r_op0, r_yld0, r_yld1, r_y, r_rbeg, r_rend, r_rend1, r_rfrm, r_rfrm1, r_range, r_rangeK, r_rangeE, r_draw, r_dnil, r_dop, r_dopg, r_dplq, r_dplh, r_dq, r_dq0, r_dcl1, r_dcl0, r_dct1, r_dct0, r_dgd, r_dgq1, r_dgq0, r_dctG, r_op1, r_eff, r_eff0, r_call, r_call0, r_inl, r_g, r_gq, r_gc, r_effg, r_effg0, r_callg, r_callg0, r_fin, r_pre, r_imp, r_all, r_ex, r_fing, r_preg, r_exg, r_inBlock, r_inLoop, r_frame, r_frame1, r_skip, r_stuck, r_region, r_seq, r_cond, r_cond1, r_block, r_exit, r_exit1, r_exit2, r_ret, r_loop, s_args0, s_args1, s_xt, s_xc, padL, blankL, callee, callArgs, eff, ctOf, getL, setL, S.put, S.upd, unopts, unopt, unoptsO, unoptsB, lazyO, guardOf, gbool, eMov, eNot, eNeg, eConv, eExt, eLenArr, eLen, eLenStr, eEqb, eEqv, allEq, eNil, negIf, eBool2, eCmp, eAri, ari, eBit, eDiv, eSh, eMinMax, foldMin, foldMax, kEq, pure1, cmpB, VO.quiet, resVals, resVal, tupled, popRet, popTo, cond, Option.bind, Option.map, eNew, eBox, asCells, lenH, snocH, eFieldAddr, eField, eLoad, cellsAt, getH, setH, dropL, takeL, mkAgg, lenL, lenS, shift, shiftL, shiftH, viewN, viewL, view, andT, junks, List.append_nil, Nat.beq, eIdxAddr, eIdxArr, idxN_0, idxN_1, idxN_2, idxN_3, eIndex, eStore, storeAt, spliceL, ones, one, eSlice, eSliceArr, bounds, subLo_z, addLo_z, subLo_one, addLo_one, eMake, eAppend, readS, repL, buildCells, chunk, purgeL, purgeLL, purgeH, purge, refs, refsL, List.cons_append, List.nil_append, wrOps, wrAl, wrDops, wrC, junkAt, putAll, putHs, headOf, headK, keepG, List.append_eq, headX, chkP, apartP, apartB, blk, strip, runAl, AL.ho, yld, putPs, lenN, findR, notRound, jumpK, jumpPT, jcode, List.map_cons, List.map_nil, ite_self, reduceIte]
          simp only [leS_mk, leL_cons, leL_nil, le_junk, le_int, le_bool, le_nil, leLL_nil, leLL_cons, leH_cons, leH_nil, leH1_box, leH1_own, leH1_gone, le_vs, le_agg, le_tup, le_ptr, le_own, le_xp, le_fn, le_opt, le_val, le_elem, le_nil_own, le_nil_vs, leH_ghost, leL_chunk, leXL_id, bnd_int, bnd_bool, bnd_val, bnd_nil, bnd_junk, bnd_vs, bnd_xp, bnd_agg, bnd_tup, bnd_ptr, bnd_own, bnd_elem, bnd_fn, bnd_iface, bnd_opt, bndL_nil, bndL_cons, lenH_cons, lenH_nil, imp_self, implies_true, true_and, and_true]
          simp
        · rintro i ⟨hi, hc⟩
          dsimp only [enc2, Int.toNat_natCast, r_end, r_end1, r_nil, r_op, r_opg, r_runOp, r_op0, r_yld0, r_yld1, r_y, r_rbeg, r_rend, r_rend1, r_rfrm, r_rfrm1, r_range, r_rangeK, r_rangeE, r_draw, r_dnil, r_dop, r_dopg, r_dplq, r_dplh, r_dq, r_dq0, r_dcl1, r_dcl0, r_dct1, r_dct0, r_dgd, r_dgq1, r_dgq0, r_dctG, r_op1, r_eff, r_eff0, r_call, r_call0, r_inl, r_g, r_gq, r_gc, r_effg, r_effg0, r_callg, r_callg0, r_fin, r_pre, r_imp, r_all, r_ex, r_fing, r_preg, r_exg, r_inBlock, r_inLoop, r_frame, r_frame1, r_skip, r_stuck, r_region, r_seq, r_cond, r_cond1, r_block, r_exit, r_exit1, r_exit2, r_ret, r_loop, s_args0, s_args1, s_xt, s_xc, padL, blankL, callee, callArgs, eff, ctOf, getL, setL, S.put, S.upd, unopts, unopt, unoptsO, unoptsB, lazyO, guardOf, gbool, eMov, eNot, eNeg, eConv, eExt, eLenArr, eLen, eLenStr, eEqb, eEqv, allEq, eNil, negIf, eBool2, eCmp, eAri, ari, eBit, eDiv, eSh, eMinMax, foldMin, foldMax, kEq, pure1, cmpB, VO.quiet, resVals, resVal, tupled, popRet, popTo, cond, Option.bind, Option.map, eNew, eBox, asCells, lenH, snocH, eFieldAddr, eField, eLoad, cellsAt, getH, setH, dropL, takeL, mkAgg, lenL, lenS, shift, shiftL, shiftH, viewN, viewL, view, andT, junks, List.append_nil, Nat.beq, eIdxAddr, eIdxArr, idxN_0, idxN_1, idxN_2, idxN_3, eIndex, eStore, storeAt, spliceL, ones, one, eSlice, eSliceArr, bounds, subLo_z, addLo_z, subLo_one, addLo_one, eMake, eAppend, readS, repL, buildCells, chunk, purgeL, purgeLL, purgeH, purge, refs, refsL, List.cons_append, List.nil_append, wrOps, wrAl, wrDops, wrC, junkAt, putAll, putHs, headOf, headK, keepG, List.append_eq, headX, chkP, apartP, apartB, blk, strip, runAl, AL.ho, yld, putPs, lenN, findR, notRound, jumpK, jumpPT, jcode, List.map_cons, List.map_nil, ite_self, reduceIte]
          simp only [true_and, and_true, imp_self, implies_true, decide_eq_true_eq, decide_eq_false_iff_not, Nat.reduceAdd, Nat.reduceLeDiff, Bool.not_not, reduceCtorEq, false_imp_iff, Bool.not_eq_true', Bool.not_eq_false', Bool.false_eq_true, and_self, forall_const, ne_eq, not_false_eq_true, Nat.reduceEqDiff]
          refine ⟨fun hlt => ⟨⟨by omega, hlt⟩, ⟨by omega, hlt⟩, fun hb => ans_int ?_, fun hb => ?_⟩, fun hge => ?_⟩
          · have e := ivE_2 ha (i := i) (by omega) (by omega)
            rw [e] at h; exact h
          · refine ⟨i + 1, ⟨by omega, fun j hj => ?_⟩, by omega, ?_⟩
            · rcases Nat.lt_or_ge j i with h' | h'
              · exact hc j h'
              · obtain rfl : j = i := by omega
                omega
            · have hw := w_succ (i := i) (n := l.length) (by omega) (by omega)
              simp only [hw, leS_mk, leL_cons, leL_nil, le_junk, le_int, le_bool, le_nil, leLL_nil, leLL_cons, leH_cons, leH_nil, leH1_box, leH1_own, leH1_gone, le_vs, le_agg, le_tup, le_ptr, le_own, le_xp, le_fn, le_opt, le_val, le_elem, le_nil_own, le_nil_vs, leH_ghost, leL_chunk, leXL_id, bnd_int, bnd_bool, bnd_val, bnd_nil, bnd_junk, bnd_vs, bnd_xp, bnd_agg, bnd_tup, bnd_ptr, bnd_own, bnd_elem, bnd_fn, bnd_iface, bnd_opt, bndL_nil, bndL_cons, lenH_cons, lenH_nil, imp_self, implies_true, true_and, and_true] <;> simp
          · obtain rfl : i = l.length := by omega
            rw [ivE_0 ha hc] at h
            exact ans_int h
  · exact h.1.elim

def Q0 : Env := { ct := fun n => match n with | 65 => some ivlC | _ => none, fn := fun _ => none, meth := fun _ _ => none }
theorem Q0_ct65 : Q0.ct 65 = some ivlC := rfl
theorem Q0_ok : EnvOk Try.prog Q0 := by
  refine ⟨fun f c h => ?_, fun f vf h => ?_, fun _ _ => rfl, by kernel_rfl⟩
  · simp only [Q0] at h
    split at h
    · cases h; exact ⟨rbad_ok, Try.f65, Try.func65, by kernel_rfl, by kernel_rfl⟩
    · cases h
  · cases h


theorem rcheck_ok : iv1C.ok Try.prog 33 := by
  refine contract Try.func33 v33_is Q0_ok 100 iv1C fun args k h => ⟨args, ?_⟩
  simp only [iv1C] at h
  split at h
  · rename_i x y
    refine ⟨by simp [leL, le], ?_⟩
    dsimp only [v33, Q0_ct65, ivlC, r_end, r_end1, r_nil, r_op, r_opg, r_runOp, r_op0, r_yld0, r_yld1, r_y, r_rbeg, r_rend, r_rend1, r_rfrm, r_rfrm1, r_range, r_rangeK, r_rangeE, r_draw, r_dnil, r_dop, r_dopg, r_dplq, r_dplh, r_dq, r_dq0, r_dcl1, r_dcl0, r_dct1, r_dct0, r_dgd, r_dgq1, r_dgq0, r_dctG, r_op1, r_eff, r_eff0, r_call, r_call0, r_inl, r_g, r_gq, r_gc, r_effg, r_effg0, r_callg, r_callg0, r_fin, r_pre, r_imp, r_all, r_ex, r_fing, r_preg, r_exg, r_inBlock, r_inLoop, r_frame, r_frame1, r_skip, r_stuck, r_region, r_seq, r_cond, r_cond1, r_block, r_exit, r_exit1, r_exit2, r_ret, r_loop, s_args0, s_args1, s_xt, s_xc, padL, blankL, callee, callArgs, eff, ctOf, getL, setL, S.put, S.upd, unopts, unopt, unoptsO, unoptsB, lazyO, guardOf, gbool, eMov, eNot, eNeg, eConv, eExt, eLenArr, eLen, eLenStr, eEqb, eEqv, allEq, eNil, negIf, eBool2, eCmp, eAri, ari, eBit, eDiv, eSh, eMinMax, foldMin, foldMax, kEq, pure1, cmpB, VO.quiet, resVals, resVal, tupled, popRet, popTo, cond, Option.bind, Option.map, eNew, eBox, asCells, lenH, snocH, eFieldAddr, eField, eLoad, cellsAt, getH, setH, dropL, takeL, mkAgg, lenL, lenS, shift, shiftL, shiftH, viewN, viewL, view, andT, junks, List.append_nil, Nat.beq, eIdxAddr, eIdxArr, idxN_0, idxN_1, idxN_2, idxN_3, eIndex, eStore, storeAt, spliceL, ones, one, eSlice, eSliceArr, bounds, subLo_z, addLo_z, subLo_one, addLo_one, eMake, eAppend, readS, repL, buildCells, chunk, purgeL, purgeLL, purgeH, purge, refs, refsL, List.cons_append, List.nil_append, wrOps, wrAl, wrDops, wrC, junkAt, putAll, putHs, headOf, headK, keepG, List.append_eq, headX, chkP, apartP, apartB, blk, strip, runAl, AL.ho, yld, putPs, lenN, findR, notRound, jumpK, jumpPT, jcode, List.map_cons, List.map_nil, ite_self, reduceIte]
    simp only [true_and, and_true, imp_self, implies_true, decide_eq_true_eq, decide_eq_false_iff_not, Nat.reduceAdd, Nat.reduceLeDiff, Bool.not_not, reduceCtorEq, false_imp_iff, Bool.not_eq_true', Bool.not_eq_false', Bool.false_eq_true, and_self, forall_const, ne_eq, not_false_eq_true, Nat.reduceEqDiff]
    refine ⟨by decide, [(x, y)], ⟨⟨rfl, rfl, fun k hk => ?_⟩, by simp⟩, ans_int h⟩
    match k, hk with
    | 0, _ => exact leXL_self _
  · exact h.1.elim

theorem rhull_ok : hullC.ok Try.prog 37 := by
  refine contract Try.func37 v37_is Q0_ok 200 hullC fun args k h => ⟨args, ?_⟩
  simp only [hullC, iv2C] at h
  split at h
  · rename_i x y z w
    refine ⟨by simp [leL, le], ?_⟩
    dsimp only [v37, Q0_ct65, ivlC, enc2, r_end, r_end1, r_nil, r_op, r_opg, r_runOp, r_op0, r_yld0, r_yld1, r_y, r_rbeg, r_rend, r_rend1, r_rfrm, r_rfrm1, r_range, r_rangeK, r_rangeE, r_draw, r_dnil, r_dop, r_dopg, r_dplq, r_dplh, r_dq, r_dq0, r_dcl1, r_dcl0, r_dct1, r_dct0, r_dgd, r_dgq1, r_dgq0, r_dctG, r_op1, r_eff, r_eff0, r_call, r_call0, r_inl, r_g, r_gq, r_gc, r_effg, r_effg0, r_callg, r_callg0, r_fin, r_pre, r_imp, r_all, r_ex, r_fing, r_preg, r_exg, r_inBlock, r_inLoop, r_frame, r_frame1, r_skip, r_stuck, r_region, r_seq, r_cond, r_cond1, r_block, r_exit, r_exit1, r_exit2, r_ret, r_loop, s_args0, s_args1, s_xt, s_xc, padL, blankL, callee, callArgs, eff, ctOf, getL, setL, S.put, S.upd, unopts, unopt, unoptsO, unoptsB, lazyO, guardOf, gbool, eMov, eNot, eNeg, eConv, eExt, eLenArr, eLen, eLenStr, eEqb, eEqv, allEq, eNil, negIf, eBool2, eCmp, eAri, ari, eBit, eDiv, eSh, eMinMax, foldMin, foldMax, kEq, pure1, cmpB, VO.quiet, resVals, resVal, tupled, popRet, popTo, cond, Option.bind, Option.map, eNew, eBox, asCells, lenH, snocH, eFieldAddr, eField, eLoad, cellsAt, getH, setH, dropL, takeL, mkAgg, lenL, lenS, shift, shiftL, shiftH, viewN, viewL, view, andT, junks, List.append_nil, Nat.beq, eIdxAddr, eIdxArr, idxN_0, idxN_1, idxN_2, idxN_3, eIndex, eStore, storeAt, spliceL, ones, one, eSlice, eSliceArr, bounds, subLo_z, addLo_z, subLo_one, addLo_one, eMake, eAppend, readS, repL, buildCells, chunk, purgeL, purgeLL, purgeH, purge, refs, refsL, List.cons_append, List.nil_append, wrOps, wrAl, wrDops, wrC, junkAt, putAll, putHs, headOf, headK, keepG, List.append_eq, headX, chkP, apartP, apartB, blk, strip, runAl, AL.ho, yld, putPs, lenN, findR, notRound, jumpK, jumpPT, jcode, List.map_cons, List.map_nil, ite_self, reduceIte]
    simp only [true_and, and_true, imp_self, implies_true, decide_eq_true_eq, decide_eq_false_iff_not, Nat.reduceAdd, Nat.reduceLeDiff, Bool.not_not, reduceCtorEq, false_imp_iff, Bool.not_eq_true', Bool.not_eq_false', Bool.false_eq_true, and_self, forall_const, ne_eq, not_false_eq_true, Nat.reduceEqDiff]
    have h : k (.tup [.agg (enc2 (hullF (x, y) (z, w)).1), .int .i64 (hullF (x, y) (z, w)).2]) [] := h
    refine ⟨by decide, [(x, y), (z, w)], ⟨⟨rfl, rfl, fun k hk => match k, hk with | 0, _ => leXL_self _ | 1, _ => leXL_self _⟩, by simp⟩, fun hc => ?_, fun hc => ?_⟩
    · rw [hullF, if_pos hc] at h
      exact ans_iv (r := errI (ivE [(x, y), (z, w)])) h
    · obtain ⟨⟨h1, h2, h3⟩, h4, h5, h6⟩ := ivE2 hc
      dsimp only at h1 h2 h3 h4 h5 h6
      rw [hullF, if_neg (by rw [hc]; simp)] at h
      exact ans_iv (r := ((_, _), _)) h
  · exact h.1.elim

theorem rmeet_ok : meetC.ok Try.prog 39 := by
  refine contract Try.func39 v39_is Q0_ok 200 meetC fun args k h => ⟨args, ?_⟩
  simp only [meetC, iv2C] at h
  split at h
  · rename_i x y z w
    refine ⟨by simp [leL, le], ?_⟩
    dsimp only [v39, Q0_ct65, ivlC, enc2, r_end, r_end1, r_nil, r_op, r_opg, r_runOp, r_op0, r_yld0, r_yld1, r_y, r_rbeg, r_rend, r_rend1, r_rfrm, r_rfrm1, r_range, r_rangeK, r_rangeE, r_draw, r_dnil, r_dop, r_dopg, r_dplq, r_dplh, r_dq, r_dq0, r_dcl1, r_dcl0, r_dct1, r_dct0, r_dgd, r_dgq1, r_dgq0, r_dctG, r_op1, r_eff, r_eff0, r_call, r_call0, r_inl, r_g, r_gq, r_gc, r_effg, r_effg0, r_callg, r_callg0, r_fin, r_pre, r_imp, r_all, r_ex, r_fing, r_preg, r_exg, r_inBlock, r_inLoop, r_frame, r_frame1, r_skip, r_stuck, r_region, r_seq, r_cond, r_cond1, r_block, r_exit, r_exit1, r_exit2, r_ret, r_loop, s_args0, s_args1, s_xt, s_xc, padL, blankL, callee, callArgs, eff, ctOf, getL, setL, S.put, S.upd, unopts, unopt, unoptsO, unoptsB, lazyO, guardOf, gbool, eMov, eNot, eNeg, eConv, eExt, eLenArr, eLen, eLenStr, eEqb, eEqv, allEq, eNil, negIf, eBool2, eCmp, eAri, ari, eBit, eDiv, eSh, eMinMax, foldMin, foldMax, kEq, pure1, cmpB, VO.quiet, resVals, resVal, tupled, popRet, popTo, cond, Option.bind, Option.map, eNew, eBox, asCells, lenH, snocH, eFieldAddr, eField, eLoad, cellsAt, getH, setH, dropL, takeL, mkAgg, lenL, lenS, shift, shiftL, shiftH, viewN, viewL, view, andT, junks, List.append_nil, Nat.beq, eIdxAddr, eIdxArr, idxN_0, idxN_1, idxN_2, idxN_3, eIndex, eStore, storeAt, spliceL, ones, one, eSlice, eSliceArr, bounds, subLo_z, addLo_z, subLo_one, addLo_one, eMake, eAppend, readS, repL, buildCells, chunk, purgeL, purgeLL, purgeH, purge, refs, refsL, List.cons_append, List.nil_append, wrOps, wrAl, wrDops, wrC, junkAt, putAll, putHs, headOf, headK, keepG, List.append_eq, headX, chkP, apartP, apartB, blk, strip, runAl, AL.ho, yld, putPs, lenN, findR, notRound, jumpK, jumpPT, jcode, List.map_cons, List.map_nil, ite_self, reduceIte]
    simp only [true_and, and_true, imp_self, implies_true, decide_eq_true_eq, decide_eq_false_iff_not, Nat.reduceAdd, Nat.reduceLeDiff, Bool.not_not, reduceCtorEq, false_imp_iff, Bool.not_eq_true', Bool.not_eq_false', Bool.false_eq_true, and_self, forall_const, ne_eq, not_false_eq_true, Nat.reduceEqDiff]
    have h : k (.tup [.agg (enc2 (meetF (x, y) (z, w)).1), .int .i64 (meetF (x, y) (z, w)).2]) [] := h
    refine ⟨by decide, [(x, y), (z, w)], ⟨⟨rfl, rfl, fun k hk => match k, hk with | 0, _ => leXL_self _ | 1, _ => leXL_self _⟩, by simp⟩, fun hc => ?_, fun hc => ?_⟩
    · rw [meetF, if_pos hc] at h
      exact ans_iv (r := errI (ivE [(x, y), (z, w)])) h
    · obtain ⟨⟨h1, h2, h3⟩, h4, h5, h6⟩ := ivE2 hc
      dsimp only at h1 h2 h3 h4 h5 h6
      rw [meetF, if_neg (by rw [hc]; simp)] at h
      dsimp only at h
      refine ⟨fun hm => ?_, fun hm => ?_⟩
      · rw [if_pos hm] at h
        exact ans_iv (r := errI 4) h
      · rw [if_neg hm] at h
        exact ans_iv (r := ((_, _), _)) h
  · exact h.1.elim

theorem rord_ok : ordC.ok Try.prog 41 := by
  refine contract Try.func41 v41_is Q0_ok 200 ordC fun args k h => ⟨args, ?_⟩
  simp only [ordC] at h
  split at h
  · rename_i x y z w
    refine ⟨by simp [leL, le], ?_⟩
    dsimp only [v41, Q0_ct65, ivlC, enc2, r_end, r_end1, r_nil, r_op, r_opg, r_runOp, r_op0, r_yld0, r_yld1, r_y, r_rbeg, r_rend, r_rend1, r_rfrm, r_rfrm1, r_range, r_rangeK, r_rangeE, r_draw, r_dnil, r_dop, r_dopg, r_dplq, r_dplh, r_dq, r_dq0, r_dcl1, r_dcl0, r_dct1, r_dct0, r_dgd, r_dgq1, r_dgq0, r_dctG, r_op1, r_eff, r_eff0, r_call, r_call0, r_inl, r_g, r_gq, r_gc, r_effg, r_effg0, r_callg, r_callg0, r_fin, r_pre, r_imp, r_all, r_ex, r_fing, r_preg, r_exg, r_inBlock, r_inLoop, r_frame, r_frame1, r_skip, r_stuck, r_region, r_seq, r_cond, r_cond1, r_block, r_exit, r_exit1, r_exit2, r_ret, r_loop, s_args0, s_args1, s_xt, s_xc, padL, blankL, callee, callArgs, eff, ctOf, getL, setL, S.put, S.upd, unopts, unopt, unoptsO, unoptsB, lazyO, guardOf, gbool, eMov, eNot, eNeg, eConv, eExt, eLenArr, eLen, eLenStr, eEqb, eEqv, allEq, eNil, negIf, eBool2, eCmp, eAri, ari, eBit, eDiv, eSh, eMinMax, foldMin, foldMax, kEq, pure1, cmpB, VO.quiet, resVals, resVal, tupled, popRet, popTo, cond, Option.bind, Option.map, eNew, eBox, asCells, lenH, snocH, eFieldAddr, eField, eLoad, cellsAt, getH, setH, dropL, takeL, mkAgg, lenL, lenS, shift, shiftL, shiftH, viewN, viewL, view, andT, junks, List.append_nil, Nat.beq, eIdxAddr, eIdxArr, idxN_0, idxN_1, idxN_2, idxN_3, eIndex, eStore, storeAt, spliceL, ones, one, eSlice, eSliceArr, bounds, subLo_z, addLo_z, subLo_one, addLo_one, eMake, eAppend, readS, repL, buildCells, chunk, purgeL, purgeLL, purgeH, purge, refs, refsL, List.cons_append, List.nil_append, wrOps, wrAl, wrDops, wrC, junkAt, putAll, putHs, headOf, headK, keepG, List.append_eq, headX, chkP, apartP, apartB, blk, strip, runAl, AL.ho, yld, putPs, lenN, findR, notRound, jumpK, jumpPT, jcode, List.map_cons, List.map_nil, ite_self, reduceIte]
    simp only [true_and, and_true, imp_self, implies_true, decide_eq_true_eq, decide_eq_false_iff_not, Nat.reduceAdd, Nat.reduceLeDiff, Bool.not_not, reduceCtorEq, false_imp_iff, Bool.not_eq_true', Bool.not_eq_false', Bool.false_eq_true, and_self, forall_const, ne_eq, not_false_eq_true, Nat.reduceEqDiff]
    have h : k (.tup [.int .i64 (ordF (x, y) (z, w)).1, .int .i64 (ordF (x, y) (z, w)).2]) [] := h
    refine ⟨by decide, [(x, y), (z, w)], ⟨⟨rfl, rfl, fun k hk => match k, hk with | 0, _ => leXL_self _ | 1, _ => leXL_self _⟩, by simp⟩, fun hc => ?_, fun hc => ?_⟩
    · rw [ordF, if_pos hc] at h
      exact ans_ii h
    · obtain ⟨⟨h1, h2, h3⟩, h4, h5, h6⟩ := ivE2 hc
      dsimp only at h1 h2 h3 h4 h5 h6
      rw [ordF, if_neg (by rw [hc]; simp)] at h
      dsimp only at h
      refine ⟨fun hm => ?_, fun hm => ⟨fun hn => ?_, fun hn => ?_⟩⟩
      · rw [if_pos hm] at h; exact ans_ii h
      · rw [if_neg hm, if_pos hn] at h; exact ans_ii h
      · rw [if_neg hm, if_neg hn] at h; exact ans_ii h
  · exact h.1.elim
end Go.Proofs.Ytdognchniaojoaa

/- Spans: what the laws begin with; the law of sets. -/
set_option linter.all false
namespace Go.Proofs.Ytdognchniaojoaa
open Go Go.Vx
set_option maxRecDepth 100000
set_option maxHeartbeats 4000000

def v22 : VF := { ntmps := 8, res := [.cell 4 true 2], body :=
 (.seq (.region [⟨(some 4), none, (.alloc [(.int .i64 0), (.int .i64 0)]), []⟩])
 (.seq (.region [⟨(some 5), none, .mov, [.tm 0]⟩,
  ⟨(some 6), none, .mov, [.tm 1]⟩,
  ⟨(some 7), none, (.build [(.int .i64 0), (.int .i64 0)] [(0, 1), (1, 1)]), [.tm 5, .tm 6]⟩,
  ⟨none, none, (.store 2), [.tm 4, .tm 7]⟩])
 .ret)) }
theorem v22_is : vfunc Try.prog Try.f22 = some v22 := by kernel_rfl
def v16 : VF := { ntmps := 111, res := [.tmp 0], body :=
 (.seq (.region [⟨(some 0), none, .mov, [.cn (.bool false)]⟩])
 (.seq (.region [⟨(some 16), none, (.call 22), [.cn (.int .i64 (-2)), .cn (.int .i64 3)]⟩,
  ⟨(some 17), none, (.call 22), [.cn (.int .i64 (-7)), .cn (.int .i64 1)]⟩,
  ⟨(some 18), none, (.call 23), [.tm 16, .tm 17]⟩,
  ⟨(some 15), none, .mov, [.tm 18]⟩,
  ⟨(some 19), none, (.ext 0), [.tm 15]⟩,
  ⟨(some 20), none, (.ext 1), [.tm 15]⟩,
  ⟨(some 1), none, (.alloc [(.int .i64 0), (.int .i64 0)]), []⟩,
  ⟨none, none, (.store 2), [.tm 1, .tm 19]⟩,
  ⟨(some 2), none, .mov, [.tm 20]⟩])
 (.seq (.region [⟨(some 22), none, (.call 22), [.cn (.int .i64 7), .cn (.int .i64 8)]⟩,
  ⟨(some 23), none, (.call 22), [.cn (.int .i64 2), .cn (.int .i64 3)]⟩,
  ⟨(some 24), none, (.call 26), [.tm 22, .tm 23]⟩,
  ⟨(some 21), none, .mov, [.tm 24]⟩,
  ⟨(some 25), none, (.ext 0), [.tm 21]⟩,
  ⟨(some 26), none, (.ext 1), [.tm 21]⟩,
  ⟨(some 3), none, (.alloc [(.int .i64 0), (.int .i64 0)]), []⟩,
  ⟨none, none, (.store 2), [.tm 3, .tm 25]⟩,
  ⟨(some 4), none, .mov, [.tm 26]⟩])
 (.seq (.region [⟨(some 28), none, (.call 22), [.cn (.int .i64 10), .cn (.int .i64 11)]⟩,
  ⟨(some 29), none, (.call 10), [.tm 28, .cn (.int .i64 (-1)), .cn (.int .i64 3)]⟩,
  ⟨(some 27), none, .mov, [.tm 29]⟩,
  ⟨(some 30), none, (.ext 0), [.tm 27]⟩,
  ⟨(some 31), none, (.ext 1), [.tm 27]⟩,
  ⟨(some 5), none, (.alloc [(.int .i64 0), (.int .i64 0)]), []⟩,
  ⟨none, none, (.store 2), [.tm 5, .tm 30]⟩,
  ⟨(some 6), none, .mov, [.tm 31]⟩])
 (.seq (.region [⟨(some 33), none, (.call 22), [.cn (.int .i64 (-3)), .cn (.int .i64 2)]⟩,
  ⟨(some 34), none, (.call 12), [.tm 33, .cn (.int .i64 2)]⟩,
  ⟨(some 32), none, .mov, [.tm 34]⟩,
  ⟨(some 35), none, (.ext 0), [.tm 32]⟩,
  ⟨(some 36), none, (.ext 1), [.tm 32]⟩,
  ⟨(some 7), none, (.alloc [(.int .i64 0), (.int .i64 0)]), []⟩,
  ⟨none, none, (.store 2), [.tm 7, .tm 35]⟩,
  ⟨(some 8), none, .mov, [.tm 36]⟩])
 (.seq (.region [⟨(some 38), none, (.call 22), [.cn (.int .i64 10), .cn (.int .i64 10)]⟩,
  ⟨(some 39), none, (.call 14), [.tm 38, .cn (.int .i64 2)]⟩,
  ⟨(some 37), none, .mov, [.tm 39]⟩,
  ⟨(some 40), none, (.ext 0), [.tm 37]⟩,
  ⟨(some 41), none, (.ext 1), [.tm 37]⟩,
  ⟨(some 9), none, (.alloc [(.int .i64 0), (.int .i64 0)]), []⟩,
  ⟨none, none, (.store 2), [.tm 9, .tm 40]⟩,
  ⟨(some 10), none, .mov, [.tm 41]⟩])
 (.seq (.region [⟨(some 43), none, (.call 22), [.cn (.int .i64 1000000), .cn (.int .i64 1000000)]⟩,
  ⟨(some 44), none, (.call 17), [.tm 43]⟩,
  ⟨(some 42), none, .mov, [.tm 44]⟩,
  ⟨(some 45), none, (.ext 0), [.tm 42]⟩,
  ⟨(some 46), none, (.ext 1), [.tm 42]⟩,
  ⟨(some 11), none, (.alloc [(.int .i64 0), (.int .i64 0)]), []⟩,
  ⟨none, none, (.store 2), [.tm 11, .tm 45]⟩,
  ⟨(some 12), none, .mov, [.tm 46]⟩])
 (.seq (.region [⟨(some 48), none, (.call 22), [.cn (.int .i64 1000), .cn (.int .i64 1000)]⟩,
  ⟨(some 49), none, (.call 19), [.tm 48]⟩,
  ⟨(some 47), none, .mov, [.tm 49]⟩,
  ⟨(some 50), none, (.ext 0), [.tm 47]⟩,
  ⟨(some 51), none, (.ext 1), [.tm 47]⟩,
  ⟨(some 13), none, (.alloc [(.int .i64 0), (.int .i64 0)]), []⟩,
  ⟨none, none, (.store 2), [.tm 13, .tm 50]⟩,
  ⟨(some 14), none, .mov, [.tm 51]⟩])
 (.seq (.seq (.region [⟨(some 52), none, .mov, [.tm 2]⟩,
  ⟨(some 53), none, (.cmp .neq), [.tm 52, .cn (.int .i64 0)]⟩,
  ⟨(some 54), none, .mov, [.tm 53]⟩,
  ⟨(some 55), (some (54, false)), .mov, [.tm 4]⟩,
  ⟨(some 56), (some (54, false)), (.cmp .neq), [.tm 55, .cn (.int .i64 0)]⟩,
  ⟨(some 57), none, .or, [.tm 54, .tm 56]⟩,
  ⟨(some 58), none, .mov, [.tm 57]⟩,
  ⟨(some 59), (some (58, false)), .mov, [.tm 6]⟩,
  ⟨(some 60), (some (58, false)), (.cmp .neq), [.tm 59, .cn (.int .i64 0)]⟩,
  ⟨(some 61), none, .or, [.tm 58, .tm 60]⟩,
  ⟨(some 62), none, .mov, [.tm 61]⟩,
  ⟨(some 63), (some (62, false)), .mov, [.tm 8]⟩,
  ⟨(some 64), (some (62, false)), (.cmp .neq), [.tm 63, .cn (.int .i64 0)]⟩,
  ⟨(some 65), none, .or, [.tm 62, .tm 64]⟩,
  ⟨(some 66), none, .mov, [.tm 65]⟩,
  ⟨(some 67), (some (66, false)), .mov, [.tm 10]⟩,
  ⟨(some 68), (some (66, false)), (.cmp .neq), [.tm 67, .cn (.int .i64 0)]⟩,
  ⟨(some 69), none, .or, [.tm 66, .tm 68]⟩,
  ⟨(some 70), none, .mov, [.tm 69]⟩,
  ⟨(some 71), (some (70, false)), .mov, [.tm 12]⟩,
  ⟨(some 72), (some (70, false)), (.cmp .neq), [.tm 71, .cn (.int .i64 0)]⟩,
  ⟨(some 73), none, .or, [.tm 70, .tm 72]⟩,
  ⟨(some 74), none, .mov, [.tm 73]⟩,
  ⟨(some 75), (some (74, false)), .mov, [.tm 14]⟩,
  ⟨(some 76), (some (74, false)), (.cmp .neq), [.tm 75, .cn (.int .i64 0)]⟩,
  ⟨(some 77), none, .or, [.tm 74, .tm 76]⟩])
 (.cond (.tm 77) (.seq (.region [⟨(some 0), none, .mov, [.cn (.bool false)]⟩])
 .ret)
  .skip))
 (.seq (.draw [] [⟨⟨(some 78), none, (.load true 2), [.tm 1]⟩, []⟩,
  ⟨⟨(some 79), none, (.call 22), [.cn (.int .i64 (-21)), .cn (.int .i64 14)]⟩, []⟩,
  ⟨⟨(some 80), none, (.eqv false [true, true]), [.tm 78, .tm 79]⟩, []⟩,
  ⟨⟨(some 81), none, .mov, [.tm 80]⟩, []⟩,
  ⟨⟨(some 82), (some (81, true)), (.load true 2), [.tm 3]⟩, []⟩,
  ⟨⟨(some 83), (some (81, true)), (.call 22), [.cn (.int .i64 2), .cn (.int .i64 4)]⟩, []⟩,
  ⟨⟨(some 84), (some (81, true)), (.eqv false [true, true]), [.tm 82, .tm 83]⟩, []⟩,
  ⟨⟨(some 85), none, .and, [.tm 81, .tm 84]⟩, []⟩,
  ⟨⟨(some 86), none, .mov, [.tm 85]⟩, []⟩,
  ⟨⟨(some 87), (some (86, true)), (.load true 2), [.tm 5]⟩, []⟩,
  ⟨⟨(some 88), (some (86, true)), (.call 22), [.cn (.int .i64 (-4)), .cn (.int .i64 (-3))]⟩, []⟩,
  ⟨⟨(some 89), (some (86, true)), (.eqv false [true, true]), [.tm 87, .tm 88]⟩, []⟩,
  ⟨⟨(some 90), none, .and, [.tm 86, .tm 89]⟩, []⟩,
  ⟨⟨(some 91), none, .mov, [.tm 90]⟩, []⟩,
  ⟨⟨(some 92), (some (91, true)), (.load true 2), [.tm 7]⟩, []⟩,
  ⟨⟨(some 93), (some (91, true)), (.call 22), [.cn (.int .i64 0), .cn (.int .i64 9)]⟩, []⟩,
  ⟨⟨(some 94), (some (91, true)), (.eqv false [true, true]), [.tm 92, .tm 93]⟩, []⟩,
  ⟨⟨(some 95), none, .and, [.tm 91, .tm 94]⟩, []⟩,
  ⟨⟨(some 96), none, .mov, [.tm 95]⟩, []⟩,
  ⟨⟨(some 97), (some (96, true)), (.load true 2), [.tm 9]⟩, []⟩,
  ⟨⟨(some 98), (some (96, true)), (.call 22), [.cn (.int .i64 3), .cn (.int .i64 4)]⟩, []⟩,
  ⟨⟨(some 99), (some (96, true)), (.eqv false [true, true]), [.tm 97, .tm 98]⟩, []⟩,
  ⟨⟨(some 100), none, .and, [.tm 96, .tm 99]⟩, []⟩,
  ⟨⟨(some 101), none, .mov, [.tm 100]⟩, []⟩,
  ⟨⟨(some 102), (some (101, true)), (.load true 2), [.tm 11]⟩, []⟩,
  ⟨⟨(some 103), (some (101, true)), (.call 22), [.cn (.int .i64 3141592), .cn (.int .i64 3141593)]⟩, []⟩,
  ⟨⟨(some 104), (some (101, true)), (.eqv false [true, true]), [.tm 102, .tm 103]⟩, []⟩,
  ⟨⟨(some 105), none, .and, [.tm 101, .tm 104]⟩, []⟩,
  ⟨⟨(some 106), none, .mov, [.tm 105]⟩, []⟩,
  ⟨⟨(some 107), (some (106, true)), (.load true 2), [.tm 13]⟩, []⟩,
  ⟨⟨(some 108), (some (106, true)), (.call 22), [.cn (.int .i64 785398), .cn (.int .i64 785399)]⟩, []⟩,
  ⟨⟨(some 109), (some (106, true)), (.eqv false [true, true]), [.tm 107, .tm 108]⟩, []⟩,
  ⟨⟨(some 110), none, .and, [.tm 106, .tm 109]⟩, []⟩,
  ⟨⟨(some 0), none, .mov, [.tm 110]⟩, []⟩])
 .ret)))))))))) }
theorem v16_is : vfunc Try.prog Try.f16 = some v16 := by kernel_rfl
def v9 : VF := { ntmps := 111, res := [.tmp 4], body :=
 (.seq (.region [⟨(some 2), none, .box, [.tm 0]⟩,
  ⟨(some 3), none, .box, [.tm 1]⟩,
  ⟨(some 4), none, .mov, [.cn (.bool false)]⟩])
 (.seq (.region [⟨(some 20), none, (.load true 2), [.tm 2]⟩,
  ⟨(some 21), none, (.load true 2), [.tm 3]⟩,
  ⟨(some 22), none, (.call 36), [.tm 20, .tm 21]⟩,
  ⟨(some 19), none, .mov, [.tm 22]⟩,
  ⟨(some 23), none, (.ext 0), [.tm 19]⟩,
  ⟨(some 24), none, (.ext 1), [.tm 19]⟩,
  ⟨(some 5), none, (.alloc [(.int .i64 0), (.int .i64 0)]), []⟩,
  ⟨none, none, (.store 2), [.tm 5, .tm 23]⟩,
  ⟨(some 6), none, .mov, [.tm 24]⟩])
 (.seq (.region [⟨(some 26), none, (.load true 2), [.tm 2]⟩,
  ⟨(some 27), none, (.load true 2), [.tm 3]⟩,
  ⟨(some 28), none, (.call 37), [.tm 26, .tm 27]⟩,
  ⟨(some 25), none, .mov, [.tm 28]⟩,
  ⟨(some 29), none, (.ext 0), [.tm 25]⟩,
  ⟨(some 30), none, (.ext 1), [.tm 25]⟩,
  ⟨(some 7), none, (.alloc [(.int .i64 0), (.int .i64 0)]), []⟩,
  ⟨none, none, (.store 2), [.tm 7, .tm 29]⟩,
  ⟨(some 8), none, .mov, [.tm 30]⟩])
 (.seq (.region [⟨(some 32), none, (.load true 2), [.tm 2]⟩,
  ⟨(some 33), none, (.load true 2), [.tm 3]⟩,
  ⟨(some 34), none, (.call 38), [.tm 32, .tm 33]⟩,
  ⟨(some 31), none, .mov, [.tm 34]⟩,
  ⟨(some 35), none, (.ext 0), [.tm 31]⟩,
  ⟨(some 36), none, (.ext 1), [.tm 31]⟩,
  ⟨(some 9), none, (.alloc [(.int .i64 0), (.int .i64 0)]), []⟩,
  ⟨none, none, (.store 2), [.tm 9, .tm 35]⟩,
  ⟨(some 10), none, .mov, [.tm 36]⟩])
 (.seq (.region [⟨(some 38), none, (.load true 2), [.tm 2]⟩,
  ⟨(some 39), none, (.load true 2), [.tm 3]⟩,
  ⟨(some 40), none, (.call 39), [.tm 38, .tm 39]⟩,
  ⟨(some 37), none, .mov, [.tm 40]⟩,
  ⟨(some 41), none, (.ext 0), [.tm 37]⟩,
  ⟨(some 42), none, (.ext 1), [.tm 37]⟩,
  ⟨(some 11), none, (.alloc [(.int .i64 0), (.int .i64 0)]), []⟩,
  ⟨none, none, (.store 2), [.tm 11, .tm 41]⟩,
  ⟨(some 12), none, .mov, [.tm 42]⟩])
 (.seq (.region [⟨(some 44), none, (.load true 2), [.tm 2]⟩,
  ⟨(some 45), none, (.load true 2), [.tm 3]⟩,
  ⟨(some 46), none, (.call 40), [.tm 44, .tm 45]⟩,
  ⟨(some 43), none, .mov, [.tm 46]⟩,
  ⟨(some 47), none, (.ext 0), [.tm 43]⟩,
  ⟨(some 48), none, (.ext 1), [.tm 43]⟩,
  ⟨(some 13), none, .mov, [.tm 47]⟩,
  ⟨(some 14), none, .mov, [.tm 48]⟩])
 (.seq (.region [⟨(some 50), none, (.load true 2), [.tm 2]⟩,
  ⟨(some 51), none, (.load true 2), [.tm 3]⟩,
  ⟨(some 52), none, (.call 41), [.tm 50, .tm 51]⟩,
  ⟨(some 49), none, .mov, [.tm 52]⟩,
  ⟨(some 53), none, (.ext 0), [.tm 49]⟩,
  ⟨(some 54), none, (.ext 1), [.tm 49]⟩,
  ⟨(some 15), none, .mov, [.tm 53]⟩,
  ⟨(some 16), none, .mov, [.tm 54]⟩])
 (.seq (.region [⟨(some 56), none, (.load true 2), [.tm 3]⟩,
  ⟨(some 57), none, (.load true 2), [.tm 2]⟩,
  ⟨(some 58), none, (.call 40), [.tm 56, .tm 57]⟩,
  ⟨(some 55), none, .mov, [.tm 58]⟩,
  ⟨(some 59), none, (.ext 0), [.tm 55]⟩,
  ⟨(some 60), none, (.ext 1), [.tm 55]⟩,
  ⟨(some 17), none, .mov, [.tm 59]⟩,
  ⟨(some 18), none, .mov, [.tm 60]⟩])
 (.seq (.seq (.region [⟨(some 61), none, (.load true 2), [.tm 5]⟩,
  ⟨(some 62), none, (.load true 2), [.tm 7]⟩,
  ⟨(some 63), none, (.eqv true [true, true]), [.tm 61, .tm 62]⟩,
  ⟨(some 64), none, .mov, [.tm 63]⟩,
  ⟨(some 65), (some (64, false)), .mov, [.tm 6]⟩,
  ⟨(some 66), (some (64, false)), .mov, [.tm 8]⟩,
  ⟨(some 67), (some (64, false)), (.cmp .neq), [.tm 65, .tm 66]⟩,
  ⟨(some 68), none, .or, [.tm 64, .tm 67]⟩,
  ⟨(some 69), none, .mov, [.tm 68]⟩,
  ⟨(some 70), (some (69, false)), (.load true 2), [.tm 9]⟩,
  ⟨(some 71), (some (69, false)), (.load true 2), [.tm 11]⟩,
  ⟨(some 72), (some (69, false)), (.eqv true [true, true]), [.tm 70, .tm 71]⟩,
  ⟨(some 73), none, .or, [.tm 69, .tm 72]⟩,
  ⟨(some 74), none, .mov, [.tm 73]⟩,
  ⟨(some 75), (some (74, false)), .mov, [.tm 10]⟩,
  ⟨(some 76), (some (74, false)), .mov, [.tm 12]⟩,
  ⟨(some 77), (some (74, false)), (.cmp .neq), [.tm 75, .tm 76]⟩,
  ⟨(some 78), none, .or, [.tm 74, .tm 77]⟩,
  ⟨(some 79), none, .mov, [.tm 78]⟩,
  ⟨(some 80), (some (79, false)), .mov, [.tm 13]⟩,
  ⟨(some 81), (some (79, false)), .mov, [.tm 15]⟩,
  ⟨(some 82), (some (79, false)), (.cmp .neq), [.tm 80, .tm 81]⟩,
  ⟨(some 83), none, .or, [.tm 79, .tm 82]⟩,
  ⟨(some 84), none, .mov, [.tm 83]⟩,
  ⟨(some 85), (some (84, false)), .mov, [.tm 14]⟩,
  ⟨(some 86), (some (84, false)), .mov, [.tm 16]⟩,
  ⟨(some 87), (some (84, false)), (.cmp .neq), [.tm 85, .tm 86]⟩,
  ⟨(some 88), none, .or, [.tm 84, .tm 87]⟩])
 (.cond (.tm 88) (.seq (.region [⟨(some 4), none, .mov, [.cn (.bool false)]⟩])
 .ret)
  .skip))
 (.seq (.region [⟨(some 89), none, .mov, [.tm 14]⟩,
  ⟨(some 90), none, (.cmp .neq), [.tm 89, .cn (.int .i64 0)]⟩,
  ⟨(some 91), none, .mov, [.tm 90]⟩,
  ⟨(some 92), (some (91, false)), .mov, [.tm 18]⟩,
  ⟨(some 93), (some (91, false)), (.cmp .eql), [.tm 92, .cn (.int .i64 0)]⟩,
  ⟨(some 94), (some (91, false)), .mov, [.tm 93]⟩,
  ⟨(some 95), (some (94, true)), .mov, [.tm 17]⟩,
  ⟨(some 96), (some (94, true)), .mov, [.tm 13]⟩,
  ⟨(some 97), (some (94, true)), .neg, [.tm 96]⟩,
  ⟨(some 98), (some (94, true)), (.cmp .eql), [.tm 95, .tm 97]⟩,
  ⟨(some 99), (some (91, false)), .and, [.tm 94, .tm 98]⟩,
  ⟨(some 100), (some (91, false)), .mov, [.tm 99]⟩,
  ⟨(some 101), (some (100, true)), .mov, [.tm 13]⟩,
  ⟨(some 102), (some (100, true)), (.cmp .neq), [.tm 101, .cn (.int .i64 0)]⟩,
  ⟨(some 103), (some (100, true)), .mov, [.tm 10]⟩,
  ⟨(some 104), (some (100, true)), (.cmp .eql), [.tm 103, .cn (.int .i64 4)]⟩,
  ⟨(some 105), (some (100, true)), (.eqb false), [.tm 102, .tm 104]⟩,
  ⟨(some 106), (some (91, false)), .and, [.tm 100, .tm 105]⟩,
  ⟨(some 107), none, .or, [.tm 91, .tm 106]⟩,
  ⟨(some 108), none, .mov, [.tm 107]⟩,
  ⟨(some 109), (some (108, true)), (.call 16), []⟩,
  ⟨(some 110), none, .and, [.tm 108, .tm 109]⟩,
  ⟨(some 4), none, .mov, [.tm 110]⟩])
 .ret)))))))))) }
theorem v9_is : vfunc Try.prog Try.f9 = some v9 := by kernel_rfl


def mkivC : Ctr := { alias := false, of := fun l => match l with
  | [.int .i64 x, .int .i64 y] => .fin (.agg (enc2 (x, y))) []
  | _ => noC }
theorem mkiv_ok : mkivC.ok Try.prog 22 := by
  refine contract Try.func22 v22_is P0_ok 100 mkivC fun args k h => ⟨args, ?_⟩
  simp only [mkivC] at h
  split at h
  · rename_i x y
    refine ⟨by simp [leL, le], ?_⟩
    dsimp only [v22, r_end, r_end1, r_nil, r_op, r_opg, r_runOp, r_op0, r_yld0, r_yld1, r_y, r_rbeg, r_rend, r_rend1, r_rfrm, r_rfrm1, r_range, r_rangeK, r_rangeE, r_draw, r_dnil, r_dop, r_dopg, r_dplq, r_dplh, r_dq, r_dq0, r_dcl1, r_dcl0, r_dct1, r_dct0, r_dgd, r_dgq1, r_dgq0, r_dctG, r_op1, r_eff, r_eff0, r_call, r_call0, r_inl, r_g, r_gq, r_gc, r_effg, r_effg0, r_callg, r_callg0, r_fin, r_pre, r_imp, r_all, r_ex, r_fing, r_preg, r_exg, r_inBlock, r_inLoop, r_frame, r_frame1, r_skip, r_stuck, r_region, r_seq, r_cond, r_cond1, r_block, r_exit, r_exit1, r_exit2, r_ret, r_loop, s_args0, s_args1, s_xt, s_xc, padL, blankL, callee, callArgs, eff, ctOf, getL, setL, S.put, S.upd, unopts, unopt, unoptsO, unoptsB, lazyO, guardOf, gbool, eMov, eNot, eNeg, eConv, eExt, eLenArr, eLen, eLenStr, eEqb, eEqv, allEq, eNil, negIf, eBool2, eCmp, eAri, ari, eBit, eDiv, eSh, eMinMax, foldMin, foldMax, kEq, pure1, cmpB, VO.quiet, resVals, resVal, tupled, popRet, popTo, cond, Option.bind, Option.map, eNew, eBox, asCells, lenH, snocH, eFieldAddr, eField, eLoad, cellsAt, getH, setH, dropL, takeL, mkAgg, lenL, lenS, shift, shiftL, shiftH, viewN, viewL, view, andT, junks, List.append_nil, Nat.beq, eIdxAddr, eIdxArr, idxN_0, idxN_1, idxN_2, idxN_3, eIndex, eStore, storeAt, spliceL, ones, one, eSlice, eSliceArr, bounds, subLo_z, addLo_z, subLo_one, addLo_one, eMake, eAppend, readS, repL, buildCells, chunk, purgeL, purgeLL, purgeH, purge, refs, refsL, List.cons_append, List.nil_append, wrOps, wrAl, wrDops, wrC, junkAt, putAll, putHs, headOf, headK, keepG, List.append_eq, headX, chkP, apartP, apartB, blk, strip, runAl, AL.ho, yld, putPs, lenN, findR, notRound, jumpK, jumpPT, jcode, List.map_cons, List.map_nil, ite_self, reduceIte]
    simp only [true_and, and_true, imp_self, implies_true, decide_eq_true_eq, decide_eq_false_iff_not, Nat.reduceAdd, Nat.reduceLeDiff, Bool.not_not, reduceCtorEq, false_imp_iff, Bool.not_eq_true', Bool.not_eq_false', Bool.false_eq_true, and_self, forall_const, ne_eq, not_false_eq_true, Nat.reduceEqDiff]
    exact ans_le (show k _ [] from h) (le_self (.agg (enc2 (x, y))) ⟨trivial, trivial, trivial⟩) (fun _ => by simp [enc2, freshS, freshL])
  · exact h.1.elim

def A0 : Env := { ct := fun n => match n with | 22 => some mkivC | 23 => some mulC | 26 => some quoC | 10 => some sclC | 12 => some powC | 14 => some rootC | 17 => some piC | 19 => some discC | _ => none, fn := fun _ => none, meth := fun _ _ => none }
theorem A0_ct22 : A0.ct 22 = some mkivC := rfl
theorem A0_ct23 : A0.ct 23 = some mulC := rfl
theorem A0_ct26 : A0.ct 26 = some quoC := rfl
theorem A0_ct10 : A0.ct 10 = some sclC := rfl
theorem A0_ct12 : A0.ct 12 = some powC := rfl
theorem A0_ct14 : A0.ct 14 = some rootC := rfl
theorem A0_ct17 : A0.ct 17 = some piC := rfl
theorem A0_ct19 : A0.ct 19 = some discC := rfl
theorem A0_ok : EnvOk Try.prog A0 := by
  refine ⟨fun f c h => ?_, fun f vf h => ?_, fun _ _ => rfl, by kernel_rfl⟩
  · simp only [A0] at h
    split at h
    · cases h; exact ⟨mkiv_ok, Try.f22, Try.func22, by kernel_rfl, by kernel_rfl⟩
    · cases h; exact ⟨mul_ok, Try.f23, Try.func23, by kernel_rfl, by kernel_rfl⟩
    · cases h; exact ⟨quo_ok, Try.f26, Try.func26, by kernel_rfl, by kernel_rfl⟩
    · cases h; exact ⟨scl_ok, Try.f10, Try.func10, by kernel_rfl, by kernel_rfl⟩
    · cases h; exact ⟨pow_ok, Try.f12, Try.func12, by kernel_rfl, by kernel_rfl⟩
    · cases h; exact ⟨root_ok, Try.f14, Try.func14, by kernel_rfl, by kernel_rfl⟩
    · cases h; exact ⟨pi_ok, Try.f17, Try.func17, by kernel_rfl, by kernel_rfl⟩
    · cases h; exact ⟨disc_ok, Try.f19, Try.func19, by kernel_rfl, by kernel_rfl⟩
    · cases h
  · cases h


theorem awake_ok : trueC.ok Try.prog 16 := by
  refine contract Try.func16 v16_is A0_ok 400 trueC fun args k h => ⟨args, ?_⟩
  simp only [trueC] at h
  split at h
  · refine ⟨by simp [leL], ?_⟩
    dsimp only [v16, A0_ct22, A0_ct23, A0_ct26, A0_ct10, A0_ct12, A0_ct14, A0_ct17, A0_ct19, mkivC, mulC, quoC, sclC, powC, rootC, piC, discC, iv2C, ivoC, enc2, r_end, r_end1, r_nil, r_op, r_opg, r_runOp, r_op0, r_yld0, r_yld1, r_y, r_rbeg, r_rend, r_rend1, r_rfrm, r_rfrm1, r_range, r_rangeK, r_rangeE, r_draw, r_dnil, r_dop, r_dopg, r_dplq, r_dplh, r_dq, r_dq0, r_dcl1, r_dcl0, r_dct1, r_dct0, r_dgd, r_dgq1, r_dgq0, r_dctG, r_op1, r_eff, r_eff0, r_call, r_call0, r_inl, r_g, r_gq, r_gc, r_effg, r_effg0, r_callg, r_callg0, r_fin, r_pre, r_imp, r_all, r_ex, r_fing, r_preg, r_exg, r_inBlock, r_inLoop, r_frame, r_frame1, r_skip, r_stuck, r_region, r_seq, r_cond, r_cond1, r_block, r_exit, r_exit1, r_exit2, r_ret, r_loop, s_args0, s_args1, s_xt, s_xc, padL, blankL, callee, callArgs, eff, ctOf, getL, setL, S.put, S.upd, unopts, unopt, unoptsO, unoptsB, lazyO, guardOf, gbool, eMov, eNot, eNeg, eConv, eExt, eLenArr, eLen, eLenStr, eEqb, eEqv, allEq, eNil, negIf, eBool2, eCmp, eAri, ari, eBit, eDiv, eSh, eMinMax, foldMin, foldMax, kEq, pure1, cmpB, VO.quiet, resVals, resVal, tupled, popRet, popTo, cond, Option.bind, Option.map, eNew, eBox, asCells, lenH, snocH, eFieldAddr, eField, eLoad, cellsAt, getH, setH, dropL, takeL, mkAgg, lenL, lenS, shift, shiftL, shiftH, viewN, viewL, view, andT, junks, List.append_nil, Nat.beq, eIdxAddr, eIdxArr, idxN_0, idxN_1, idxN_2, idxN_3, eIndex, eStore, storeAt, spliceL, ones, one, eSlice, eSliceArr, bounds, subLo_z, addLo_z, subLo_one, addLo_one, eMake, eAppend, readS, repL, buildCells, chunk, purgeL, purgeLL, purgeH, purge, refs, refsL, List.cons_append, List.nil_append, wrOps, wrAl, wrDops, wrC, junkAt, putAll, putHs, headOf, headK, keepG, List.append_eq, headX, chkP, apartP, apartB, blk, strip, runAl, AL.ho, yld, putPs, lenN, findR, notRound, jumpK, jumpPT, jcode, List.map_cons, List.map_nil, ite_self, reduceIte]
    have e1 : mulF (-2, 3) (-7, 1) = ((-21, 14), 0) := by decide +kernel
    have e2 : quoF (7, 8) (2, 3) = ((2, 4), 0) := by decide +kernel
    have e3 : sclF (10, 11) (-1) 3 = ((-4, -3), 0) := by decide +kernel
    have e4 : powF (-3, 2) 2 = ((0, 9), 0) := by decide +kernel
    have e5 : rootF (10, 10) 2 = ((3, 4), 0) := by decide +kernel
    have e6 : piF (1000000, 1000000) = ((3141592, 3141593), 0) := by decide +kernel
    have e7 : discF (1000, 1000) = ((785398, 785399), 0) := by decide +kernel
    simp only [e1, e2, e3, e4, e5, e6, e7]
    simp only [true_and, and_true, imp_self, implies_true, decide_eq_true_eq, decide_eq_false_iff_not, Nat.reduceAdd, Nat.reduceLeDiff, Bool.not_not, reduceCtorEq, false_imp_iff, Bool.not_eq_true', Bool.not_eq_false', Bool.false_eq_true, and_self, forall_const, ne_eq, not_false_eq_true, Nat.reduceEqDiff, decide_true, decide_false, Bool.and_true, Bool.true_and, Bool.and_false, Bool.false_and, Bool.not_true, Bool.not_false, Bool.or_false, Bool.false_or, Bool.or_true, Bool.true_or, Bool.and_self, Bool.or_self, Bool.false_eq_true, Bool.true_eq_false, false_imp_iff, forall_const, true_and, and_true, implies_true, reduceCtorEq, not_true_eq_false, not_false_eq_true, ite_true, ite_false]
    refine ⟨by decide, by decide, by decide, by decide, by decide, by decide, by decide, by decide, by decide, by decide, by decide, by decide, by decide, by decide, ans_bool ?_⟩
    exact h
  · exact h.1.elim
end Go.Proofs.Ytdognchniaojoaa

/- Intervals: the laws without a reference, in plain Lean. -/
set_option linter.all false
namespace Go.Proofs.Ytdognchniaojoaa
open Go Go.Vx

/-! ### Products -/

theorem mul_btw {a1 a2 x : Int} (y : Int) (h1 : a1 ≤ x) (h2 : x ≤ a2) : min (a1 * y) (a2 * y) ≤ x * y ∧ x * y ≤ max (a1 * y) (a2 * y) := by
  rcases Int.le_total 0 y with hy | hy
  · have := Int.mul_le_mul_of_nonneg_right h1 hy
    have := Int.mul_le_mul_of_nonneg_right h2 hy
    omega
  · have := Int.mul_le_mul_of_nonpos_right h1 hy
    have := Int.mul_le_mul_of_nonpos_right h2 hy
    omega
def lo4 (a b c d : Int) : Int := min (min a b) (min c d)
def hi4 (a b c d : Int) : Int := max (max a b) (max c d)
theorem mul_box {a1 a2 b1 b2 x y : Int} (h1 : a1 ≤ x) (h2 : x ≤ a2) (h3 : b1 ≤ y) (h4 : y ≤ b2) :
    lo4 (a1 * b1) (a1 * b2) (a2 * b1) (a2 * b2) ≤ x * y ∧ x * y ≤ hi4 (a1 * b1) (a1 * b2) (a2 * b1) (a2 * b2) := by
  have e1 := mul_btw y h1 h2
  have e2 := mul_btw a1 h3 h4
  have e3 := mul_btw a2 h3 h4
  rw [Int.mul_comm b1 a1, Int.mul_comm b2 a1, Int.mul_comm y a1] at e2
  rw [Int.mul_comm b1 a2, Int.mul_comm b2 a2, Int.mul_comm y a2] at e3
  unfold lo4 hi4
  omega
theorem mul_bnd {a b M N : Int} (h1 : -M ≤ a ∧ a ≤ M) (h2 : -N ≤ b ∧ b ≤ N) : -(M * N) ≤ a * b ∧ a * b ≤ M * N := by
  have e := mul_box h1.1 h1.2 h2.1 h2.2
  simp only [lo4, hi4, Int.neg_mul, Int.mul_neg, Int.neg_neg] at e
  have : 0 ≤ M * N := Int.mul_nonneg (by omega) (by omega)
  omega

theorem lowI3 (a b c d : Int) : lowI a [b, c, d] = lo4 a b c d := by
  simp only [lowI, List.foldl, lo4]; split <;> split <;> split <;> omega
theorem highI3 (a b c d : Int) : highI a [b, c, d] = hi4 a b c d := by
  simp only [highI, List.foldl, hi4]; split <;> split <;> split <;> omega
theorem rndB_in {t : Int} (h : -4611686018427387904 ≤ t ∧ t ≤ 4611686018427387904) : rndB t = (t, true) := by rw [rndB, if_pos h]
theorem spanR_in {s t : Int} : spanR (s, true) (t, true) = ((s, t), 0) := rfl
theorem ivE_ok1 {a : Iv} (h1 : -4611686018427387904 ≤ a.1) (h2 : a.2 ≤ 4611686018427387904) (h : a.1 ≤ a.2) : ivE [a] = 0 := by
  unfold ivE
  have e1 := numOk_iff.2 (show -4611686018427387904 ≤ a.1 ∧ a.1 ≤ 4611686018427387904 by omega)
  have e2 := numOk_iff.2 (show -4611686018427387904 ≤ a.2 ∧ a.2 ≤ 4611686018427387904 by omega)
  simp [e1, e2, h]
theorem ivE_ok2 {a b : Iv} (h1 : -4611686018427387904 ≤ a.1) (h2 : a.2 ≤ 4611686018427387904) (h : a.1 ≤ a.2) (h3 : -4611686018427387904 ≤ b.1) (h4 : b.2 ≤ 4611686018427387904) (h' : b.1 ≤ b.2) : ivE [a, b] = 0 := by
  unfold ivE
  have e1 := numOk_iff.2 (show -4611686018427387904 ≤ a.1 ∧ a.1 ≤ 4611686018427387904 by omega)
  have e2 := numOk_iff.2 (show -4611686018427387904 ≤ a.2 ∧ a.2 ≤ 4611686018427387904 by omega)
  have e3 := numOk_iff.2 (show -4611686018427387904 ≤ b.1 ∧ b.1 ≤ 4611686018427387904 by omega)
  have e4 := numOk_iff.2 (show -4611686018427387904 ≤ b.2 ∧ b.2 ≤ 4611686018427387904 by omega)
  simp [e1, e2, e3, e4, h, h']

/-- An interval with bounds of 31 bits. -/
def iv31 (a : Iv) : Prop := -2147483648 ≤ a.1 ∧ a.1 ≤ a.2 ∧ a.2 ≤ 2147483647
theorem ivE31 {a b : Iv} (ha : iv31 a) (hb : iv31 b) : ivE [a, b] = 0 := by
  obtain ⟨_, _, _⟩ := ha; obtain ⟨_, _, _⟩ := hb
  exact ivE_ok2 (by omega) (by omega) (by omega) (by omega) (by omega) (by omega)

theorem add31 {a b : Iv} (ha : iv31 a) (hb : iv31 b) : addF a b = ((a.1 + b.1, a.2 + b.2), 0) := by
  have e := ivE31 ha hb
  obtain ⟨_, _, _⟩ := ha; obtain ⟨_, _, _⟩ := hb
  rw [addF, if_neg (by rw [e]; decide), fitF, if_pos]
  rw [numOk_iff.2 (by omega), numOk_iff.2 (by omega)]; rfl
theorem sub_in {a b : Iv} (ha : -4294967296 ≤ a.1 ∧ a.1 ≤ a.2 ∧ a.2 ≤ 4294967296) (hb : iv31 b) : subF a b = ((a.1 - b.2, a.2 - b.1), 0) := by
  obtain ⟨_, _, _⟩ := ha; obtain ⟨_, _, _⟩ := hb
  have e := ivE_ok2 (a := a) (b := b) (by omega) (by omega) (by omega) (by omega) (by omega) (by omega)
  have e' := ivE_ok2 (a := a) (b := (-b.2, -b.1)) (by omega) (by omega) (by omega) (by dsimp only; omega) (by dsimp only; omega) (by dsimp only; omega)
  rw [subF, if_neg (by rw [e]; decide), addF, if_neg (by rw [e']; decide), fitF, if_pos]
  · simp only [Int.sub_eq_add_neg]
  · rw [numOk_iff.2 (by dsimp only; omega), numOk_iff.2 (by dsimp only; omega)]; rfl
theorem sub31 {a b : Iv} (ha : iv31 a) (hb : iv31 b) : subF a b = ((a.1 - b.2, a.2 - b.1), 0) := by
  obtain ⟨_, _, _⟩ := ha
  exact sub_in ⟨by omega, by omega, by omega⟩ hb
def mulP (a b : Iv) : Iv := (lo4 (a.1 * b.1) (a.1 * b.2) (a.2 * b.1) (a.2 * b.2), hi4 (a.1 * b.1) (a.1 * b.2) (a.2 * b.1) (a.2 * b.2))
theorem rnd1 (up : Bool) (x : Int) : rndT up x 1 = x := by
  cases up <;> simp [rndT]
theorem mul31 {a b : Iv} (ha : -2147483648 ≤ a.1 ∧ a.1 ≤ a.2 ∧ a.2 ≤ 2147483648) (hb : iv31 b) : mulF a b = (mulP a b, 0) := by
  obtain ⟨_, _, _⟩ := ha; obtain ⟨_, _, _⟩ := hb
  have e := ivE_ok2 (a := a) (b := b) (by omega) (by omega) (by omega) (by omega) (by omega) (by omega)
  have m : ∀ x y : Int, -2147483648 ≤ x ∧ x ≤ 2147483648 → -2147483648 ≤ y ∧ y ≤ 2147483648 → -4611686018427387904 ≤ x * y ∧ x * y ≤ 4611686018427387904 := fun x y hx hy => mul_bnd hx hy
  have m1 := m a.1 b.1 (by omega) (by omega)
  have m2 := m a.1 b.2 (by omega) (by omega)
  have m3 := m a.2 b.1 (by omega) (by omega)
  have m4 := m a.2 b.2 (by omega) (by omega)
  rw [mulF, if_neg (by rw [e]; decide), spanI, lowI3, highI3, rndF, rndF, rnd1, rnd1]
  have l : -4611686018427387904 ≤ lo4 (a.1 * b.1) (a.1 * b.2) (a.2 * b.1) (a.2 * b.2) ∧ lo4 (a.1 * b.1) (a.1 * b.2) (a.2 * b.1) (a.2 * b.2) ≤ 4611686018427387904 := by unfold lo4; omega
  have u : -4611686018427387904 ≤ hi4 (a.1 * b.1) (a.1 * b.2) (a.2 * b.1) (a.2 * b.2) ∧ hi4 (a.1 * b.1) (a.1 * b.2) (a.2 * b.1) (a.2 * b.2) ≤ 4611686018427387904 := by unfold hi4; omega
  rw [rndB_in l, rndB_in u, spanR_in]; rfl

/-! ### Quotients -/

theorem fl_mono {x y x' y' : Int} (hy : 0 < y) (hy' : 0 < y') (h : x * y' ≤ x' * y) : x / y ≤ x' / y' := by
  rw [Int.le_ediv_iff_mul_le hy']
  have e := Int.ediv_mul_le x (show y ≠ 0 by omega)
  have e2 := Int.mul_le_mul_of_nonneg_right e (show 0 ≤ y' by omega)
  refine Int.le_of_mul_le_mul_right ?_ hy
  have e3 : x / y * y * y' = x / y * y' * y := by rw [Int.mul_assoc, Int.mul_comm y, ← Int.mul_assoc]
  omega
theorem fl_le_ce {x y : Int} (hy : 0 < y) : x / y ≤ -((-x) / y) := by
  have e := Int.ediv_mul_le x (show y ≠ 0 by omega)
  have e2 := Int.ediv_mul_le (-x) (show y ≠ 0 by omega)
  have e3 : (x / y + (-x) / y) * y ≤ 0 * y := by rw [Int.add_mul]; omega
  have := Int.le_of_mul_le_mul_right e3 hy
  omega
def lowQ (a b : Iv) : Int := a.1 / (if a.1 < 0 then b.1 else b.2)
def highQ (a b : Iv) : Int := -((-a.2) / (if a.2 < 0 then b.2 else b.1))
theorem lowQ_le {a b : Iv} {x y : Int} (hb : 0 < b.1) (h1 : a.1 ≤ x) (h3 : b.1 ≤ y) (h4 : y ≤ b.2) : lowQ a b ≤ x / y := by
  unfold lowQ
  split
  · rename_i h
    refine fl_mono hb (by omega) ?_
    have e1 := Int.mul_le_mul_of_nonpos_left (show a.1 ≤ 0 by omega) h3
    have e2 := Int.mul_le_mul_of_nonneg_right h1 (show 0 ≤ b.1 by omega)
    omega
  · rename_i h
    refine fl_mono (by omega) (by omega) ?_
    have e1 := Int.mul_le_mul_of_nonneg_left h4 (show 0 ≤ a.1 by omega)
    have e2 := Int.mul_le_mul_of_nonneg_right h1 (show 0 ≤ b.2 by omega)
    omega
theorem le_highQ {a b : Iv} {x y : Int} (hb : 0 < b.1) (h2 : x ≤ a.2) (h3 : b.1 ≤ y) (h4 : y ≤ b.2) : -((-x) / y) ≤ highQ a b := by
  unfold highQ
  have hx : -a.2 ≤ -x := by omega
  split
  · rename_i h
    refine Int.neg_le_neg (fl_mono (by omega) (by omega) ?_)
    have e1 := Int.mul_le_mul_of_nonneg_left h4 (show 0 ≤ -a.2 by omega)
    have e2 := Int.mul_le_mul_of_nonneg_right hx (show 0 ≤ b.2 by omega)
    omega
  · rename_i h
    refine Int.neg_le_neg (fl_mono (by omega) (by omega) ?_)
    have e1 := Int.mul_le_mul_of_nonpos_left (show -a.2 ≤ 0 by omega) h3
    have e2 := Int.mul_le_mul_of_nonneg_right hx (show 0 ≤ b.1 by omega)
    omega
theorem lowQ_at {a b : Iv} : lowQ a b = a.1 / b.1 ∨ lowQ a b = a.1 / b.2 := by
  unfold lowQ; split
  · exact Or.inl rfl
  · exact Or.inr rfl
theorem highQ_at {a b : Iv} : highQ a b = -((-a.2) / b.1) ∨ highQ a b = -((-a.2) / b.2) := by
  unfold highQ; split
  · exact Or.inr rfl
  · exact Or.inl rfl
theorem quo_absM {x y M : Int} (hx : -M ≤ x ∧ x ≤ M) (hy : 0 < y) : -M ≤ x / y ∧ x / y ≤ M := by
  have h := Int.mul_le_mul_of_nonneg_left (show 1 ≤ y by omega) (show 0 ≤ M by omega)
  have e1 := fl_mono (x := -M) (y := 1) (x' := x) (y' := y) (by omega) hy (by rw [Int.neg_mul]; omega)
  have e2 := fl_mono (x := x) (y := y) (x' := M) (y' := 1) hy (by omega) (by omega)
  rw [Int.ediv_one] at e1 e2
  exact ⟨e1, e2⟩
theorem quo_abs {x y : Int} (hx : -2147483648 ≤ x ∧ x ≤ 2147483648) (hy : 0 < y) : -2147483648 ≤ x / y ∧ x / y ≤ 2147483648 := by
  have e1 := fl_mono (x := -2147483648) (y := 1) (x' := x) (y' := y) (by omega) hy (by omega)
  have e2 := fl_mono (x := x) (y := y) (x' := 2147483648) (y' := 1) hy (by omega) (by omega)
  rw [Int.ediv_one] at e1 e2
  exact ⟨e1, e2⟩
theorem div_pos {a b : Iv} (ha : -2147483648 ≤ a.1 ∧ a.1 ≤ a.2 ∧ a.2 ≤ 2147483648) (hb : 0 < b.1) (hb' : b.1 ≤ b.2) : divPos a b = ((lowQ a b, highQ a b), 0) := by
  have q1 : -2147483648 ≤ lowQ a b ∧ lowQ a b ≤ 2147483648 := by
    rcases lowQ_at (a := a) (b := b) with e | e <;> rw [e]
    · exact quo_abs (by omega) (by omega)
    · exact quo_abs (by omega) (by omega)
  have q2 : -2147483648 ≤ highQ a b ∧ highQ a b ≤ 2147483648 := by
    rcases highQ_at (a := a) (b := b) with e | e <;> rw [e]
    · have := quo_abs (x := -a.2) (y := b.1) (by omega) (by omega); omega
    · have := quo_abs (x := -a.2) (y := b.2) (by omega) (by omega); omega
  have e1 : rndF false a.1 (if a.1 < 0 then b.1 else b.2) = rndB (lowQ a b) := rfl
  have e2 : rndF true a.2 (if a.2 < 0 then b.2 else b.1) = rndB (highQ a b) := rfl
  rw [divPos, e1, e2, rndB_in (by omega), rndB_in (by omega), spanR_in]

/-- The quotient, rounded down. -/
def dnF (x y : Int) : Int := if y < 0 then (-x) / (-y) else x / y
def valF (x y w : Int) : Iv := if w = 0 then (x + y, x + y) else if w = 1 then (x - y, x - y) else if w = 2 then (x * y, x * y) else (dnF x y, -(dnF (-x) y))
/-- The least and the greatest of what the function has at the corners. -/
def corP (a b : Iv) (w : Int) : Iv := (lo4 (valF a.1 b.1 w).1 (valF a.2 b.1 w).1 (valF a.1 b.2 w).1 (valF a.2 b.2 w).1, hi4 (valF a.1 b.1 w).2 (valF a.2 b.1 w).2 (valF a.1 b.2 w).2 (valF a.2 b.2 w).2)
def neg (a : Iv) : Iv := (-a.2, -a.1)
def divP (a b : Iv) : Iv := if b.2 < 0 then (lowQ (neg a) (neg b), highQ (neg a) (neg b)) else (lowQ a b, highQ a b)
theorem quo31 {a b : Iv} (ha : iv31 a) (hb : iv31 b) (h0 : ¬ (b.1 ≤ 0 ∧ 0 ≤ b.2)) : quoF a b = (divP a b, 0) := by
  have e := ivE31 ha hb
  obtain ⟨_, _, _⟩ := ha; obtain ⟨_, _, _⟩ := hb
  rw [quoF, if_neg (by rw [e]; decide), if_neg h0, divP]
  split
  · exact div_pos (a := neg a) (b := neg b) (by dsimp only [neg]; omega) (by dsimp only [neg]; omega) (by dsimp only [neg]; omega)
  · exact div_pos (by omega) (by omega) (by omega)
theorem quo_down {a b : Iv} (ha : iv31 a) (hb : iv31 b) (h0 : b.1 ≤ 0 ∧ 0 ≤ b.2) : quoF a b = errI 9 := by
  rw [quoF, if_neg (by rw [ivE31 ha hb]; decide), if_pos h0]
theorem divP_in {a b : Iv} {x y : Int} (hb : b.1 ≤ b.2) (h0 : ¬ (b.1 ≤ 0 ∧ 0 ≤ b.2)) (h1 : a.1 ≤ x) (h2 : x ≤ a.2) (h3 : b.1 ≤ y) (h4 : y ≤ b.2) :
    (divP a b).1 ≤ dnF x y ∧ dnF x y ≤ -(dnF (-x) y) ∧ -(dnF (-x) y) ≤ (divP a b).2 := by
  unfold divP dnF
  split
  · rw [if_pos (by omega), if_pos (by omega)]
    exact ⟨lowQ_le (a := neg a) (b := neg b) (by dsimp only [neg]; omega) (by dsimp only [neg]; omega) (by dsimp only [neg]; omega) (by dsimp only [neg]; omega), fl_le_ce (by omega), le_highQ (a := neg a) (b := neg b) (by dsimp only [neg]; omega) (by dsimp only [neg]; omega) (by dsimp only [neg]; omega) (by dsimp only [neg]; omega)⟩
  · rw [if_neg (by omega), if_neg (by omega)]
    exact ⟨lowQ_le (by omega) h1 h3 h4, fl_le_ce (by omega), le_highQ (by omega) h2 h3 h4⟩
theorem divP_at {a b : Iv} (hb : b.1 ≤ b.2) (h0 : ¬ (b.1 ≤ 0 ∧ 0 ≤ b.2)) :
    ((divP a b).1 = dnF a.1 b.1 ∨ (divP a b).1 = dnF a.1 b.2 ∨ (divP a b).1 = dnF a.2 b.1 ∨ (divP a b).1 = dnF a.2 b.2) ∧
    ((divP a b).2 = -(dnF (-a.1) b.1) ∨ (divP a b).2 = -(dnF (-a.1) b.2) ∨ (divP a b).2 = -(dnF (-a.2) b.1) ∨ (divP a b).2 = -(dnF (-a.2) b.2)) := by
  unfold divP dnF
  by_cases hn : b.2 < 0
  · simp only [if_pos hn, if_pos (show b.1 < 0 by omega)]
    have e1 := lowQ_at (a := neg a) (b := neg b)
    have e2 := highQ_at (a := neg a) (b := neg b)
    dsimp only [neg] at e1 e2 ⊢
    constructor
    · rcases e1 with e | e <;> rw [e] <;> simp
    · rcases e2 with e | e <;> rw [e] <;> simp
  · simp only [if_neg hn, if_neg (show ¬ b.1 < 0 by omega)]
    constructor
    · rcases lowQ_at (a := a) (b := b) with e | e <;> rw [e] <;> simp
    · rcases highQ_at (a := a) (b := b) with e | e <;> rw [e] <;> simp

/-! ### What is computed of members is inside, and both bounds are values at corners -/

def opF (a b : Iv) (w : Int) : Iv × Int := if w = 0 then addF a b else if w = 1 then subF a b else if w = 2 then mulF a b else quoF a b
theorem inside31 {a b : Iv} {x y : Int} (ha : iv31 a) (hb : iv31 b) (h1 : a.1 ≤ x) (h2 : x ≤ a.2) (h3 : b.1 ≤ y) (h4 : y ≤ b.2) (w : Int) (hw : (w = 0 ∨ w = 1 ∨ w = 2) ∨ ¬ (b.1 ≤ 0 ∧ 0 ≤ b.2)) :
    (opF a b w).2 = 0 ∧ (opF a b w).1 = corP a b w ∧ (corP a b w).1 ≤ (valF x y w).1 ∧ (valF x y w).1 ≤ (corP a b w).2 ∧ (corP a b w).1 ≤ (valF x y w).2 ∧ (valF x y w).2 ≤ (corP a b w).2 := by
  by_cases w0 : w = 0
  · subst w0
    have e := add31 ha hb
    obtain ⟨_, _, _⟩ := ha; obtain ⟨_, _, _⟩ := hb
    simp only [opF, valF, corP, if_pos, e, lo4, hi4, Prod.mk.injEq, true_and]
    omega
  by_cases w1 : w = 1
  · subst w1
    have e := sub31 ha hb
    obtain ⟨_, _, _⟩ := ha; obtain ⟨_, _, _⟩ := hb
    simp only [opF, valF, corP, if_pos, if_neg w0, e, lo4, hi4, Prod.mk.injEq, true_and]
    omega
  by_cases w2 : w = 2
  · subst w2
    have e := mul31 (a := a) (b := b) ⟨ha.1, ha.2.1, by have := ha.2.2; omega⟩ hb
    have m := mul_box h1 h2 h3 h4
    simp only [opF, valF, corP, if_pos, if_neg w0, if_neg w1, e, mulP, Prod.mk.injEq, true_and]
    simp only [lo4, hi4] at m ⊢
    omega
  · have h0 : ¬ (b.1 ≤ 0 ∧ 0 ≤ b.2) := by omega
    have e := quo31 ha hb h0
    have i0 := divP_in (a := a) hb.2.1 h0 h1 h2 h3 h4
    have i1 := divP_in (a := a) (x := a.1) (y := b.1) hb.2.1 h0 (by omega) ha.2.1 (by omega) hb.2.1
    have i2 := divP_in (a := a) (x := a.1) (y := b.2) hb.2.1 h0 (by omega) ha.2.1 hb.2.1 (by omega)
    have i3 := divP_in (a := a) (x := a.2) (y := b.1) hb.2.1 h0 ha.2.1 (by omega) (by omega) hb.2.1
    have i4 := divP_in (a := a) (x := a.2) (y := b.2) hb.2.1 h0 ha.2.1 (by omega) hb.2.1 (by omega)
    have at' := divP_at (a := a) hb.2.1 h0
    simp only [opF, valF, corP, if_neg w0, if_neg w1, if_neg w2, e, lo4, hi4, Prod.ext_iff, true_and]
    generalize dnF a.1 b.1 = c1 at *
    generalize dnF a.1 b.2 = c2 at *
    generalize dnF a.2 b.1 = c3 at *
    generalize dnF a.2 b.2 = c4 at *
    generalize dnF (-a.1) b.1 = d1 at *
    generalize dnF (-a.1) b.2 = d2 at *
    generalize dnF (-a.2) b.1 = d3 at *
    generalize dnF (-a.2) b.2 = d4 at *
    generalize dnF x y = v at *
    generalize dnF (-x) y = u at *
    generalize (divP a b).1 = L at *
    generalize (divP a b).2 = U at *
    omega
theorem dn_pos {x y : Int} (hy : 0 < y) : (if ¬ x.tmod y = 0 ∧ x < 0 then x.tdiv y - 1 else x.tdiv y) = x / y := by
  have ht : x.tmod y = 0 ↔ y ∣ x := ⟨Int.dvd_of_tmod_eq_zero, Int.tmod_eq_zero_of_dvd⟩
  rw [Int.tdiv_eq_ediv, Int.sign_eq_one_of_pos hy]
  by_cases hd : y ∣ x
  · simp [ht, hd]
  · by_cases hx : x < 0
    · simp [ht, hd, hx, show ¬ 0 ≤ x by omega]
    · simp [ht, hd, hx, show 0 ≤ x by omega]
theorem dn_eq {x y : Int} (hy : y ≠ 0) : (if (!decide (x.tmod y = 0) && !decide (x < 0) == decide (y < 0)) = true then x.tdiv y - 1 else x.tdiv y) = dnF x y := by
  unfold dnF
  by_cases h : y < 0
  · rw [if_pos h, ← dn_pos (show 0 < -y by omega)]
    have e1 : (-x).tdiv (-y) = x.tdiv y := by rw [Int.tdiv_neg, Int.neg_tdiv, Int.neg_neg]
    have e2 : (-x).tmod (-y) = -(x.tmod y) := by rw [Int.tmod_neg, Int.neg_tmod]
    rw [e1, e2]
    have e3 : x = 0 → x.tmod y = 0 := fun h => by rw [h]; exact Int.zero_tmod _
    by_cases h1 : x.tmod y = 0
    · simp [h1]
    · by_cases h2 : x < 0
      · simp [h, h1, h2, show ¬ 0 < x by omega]
      · have : x ≠ 0 := fun hx => h1 (e3 hx)
        simp [h, h1, h2, show 0 < x by omega]
  · rw [if_neg h, ← dn_pos (show 0 < y by omega)]
    by_cases h1 : x.tmod y = 0
    · simp [h1]
    · by_cases h2 : x < 0
      · simp [h, h1, h2]
      · simp [h, h1, h2]
theorem dn_abs {x y M : Int} (hx : -M ≤ x ∧ x ≤ M) (hy : y ≠ 0) : -M ≤ dnF x y ∧ dnF x y ≤ M := by
  unfold dnF; split
  · exact quo_absM (by omega) (by omega)
  · exact quo_absM hx (by omega)

end Go.Proofs.Ytdognchniaojoaa

/- Intervals, walked: the reference's fractions. -/
set_option linter.all false
namespace Go.Proofs.Ytdognchniaojoaa
open Go Go.Vx
set_option maxRecDepth 100000
set_option maxHeartbeats 4000000

def v48 : VF := { ntmps := 16, res := [.cell 2 true 3], body :=
 (.seq (.region [⟨(some 2), none, (.alloc [(.bool false), .nil, .nil]), []⟩])
 (.seq (.seq (.region [⟨(some 3), none, .mov, [.tm 0]⟩,
  ⟨(some 4), none, (.cmp .lss), [.tm 3, .cn (.int .i64 0)]⟩])
 (.cond (.tm 4) (.seq (.region [⟨(some 5), none, .mov, [.tm 0]⟩,
  ⟨(some 6), none, .neg, [.tm 5]⟩,
  ⟨(some 7), none, (.conv .u64), [.tm 6]⟩,
  ⟨(some 8), none, (.call 55), [.tm 7]⟩,
  ⟨(some 9), none, (.call 55), [.cn (.int .u64 1)]⟩,
  ⟨(some 10), none, (.build [(.bool false), .nil, .nil] [(0, 1), (1, 1), (2, 1)]), [.cn (.bool true), .tm 8, .tm 9]⟩,
  ⟨none, none, (.store 3), [.tm 2, .tm 10]⟩])
 .ret)
  .skip))
 (.seq (.region [⟨(some 11), none, .mov, [.tm 0]⟩,
  ⟨(some 12), none, (.conv .u64), [.tm 11]⟩,
  ⟨(some 13), none, (.call 55), [.tm 12]⟩,
  ⟨(some 14), none, (.call 55), [.cn (.int .u64 1)]⟩,
  ⟨(some 15), none, (.build [(.bool false), .nil, .nil] [(1, 1), (2, 1)]), [.tm 13, .tm 14]⟩,
  ⟨none, none, (.store 3), [.tm 2, .tm 15]⟩])
 .ret))) }
theorem v48_is : vfunc Try.prog Try.f48 = some v48 := by kernel_rfl
def v46 : VF := { ntmps := 16, res := [.cell 4 true 3], body :=
 (.seq (.region [⟨(some 4), none, (.alloc [(.bool false), .nil, .nil]), []⟩])
 (.seq (.region [⟨(some 8), none, .mov, [.tm 0]⟩,
  ⟨(some 9), none, (.call 48), [.tm 8]⟩,
  ⟨(some 10), none, .mov, [.tm 1]⟩,
  ⟨(some 11), none, (.call 48), [.tm 10]⟩,
  ⟨(some 12), none, (.call 68), [.tm 9, .tm 11]⟩,
  ⟨(some 7), none, .mov, [.tm 12]⟩,
  ⟨(some 13), none, (.ext 0), [.tm 7]⟩,
  ⟨(some 14), none, (.ext 1), [.tm 7]⟩,
  ⟨(some 5), none, (.alloc [(.bool false), .nil, .nil]), []⟩,
  ⟨none, none, (.store 3), [.tm 5, .tm 13]⟩,
  ⟨(some 6), none, .mov, [.tm 14]⟩])
 (.seq (.region [⟨(some 15), none, (.load true 3), [.tm 5]⟩,
  ⟨none, none, (.store 3), [.tm 4, .tm 15]⟩])
 .ret))) }
theorem v46_is : vfunc Try.prog Try.f46 = some v46 := by kernel_rfl
def v73 : VF := { ntmps := 32, res := [.tmp 2, .tmp 3], body :=
 (.seq (.region [⟨(some 1), none, .box, [.tm 0]⟩,
  ⟨(some 2), none, .mov, [.cn (.int .i64 0)]⟩,
  ⟨(some 3), none, .mov, [.cn (.bool false)]⟩])
 (.seq (.region [⟨(some 10), none, (.load true 3), [.tm 1]⟩,
  ⟨(some 11), none, (.call 88), [.tm 10]⟩,
  ⟨(some 9), none, .mov, [.tm 11]⟩,
  ⟨(some 12), none, (.ext 0), [.tm 9]⟩,
  ⟨(some 13), none, (.ext 1), [.tm 9]⟩,
  ⟨(some 14), none, (.ext 2), [.tm 9]⟩,
  ⟨(some 4), none, .mov, [.tm 12]⟩,
  ⟨(some 5), none, .mov, [.tm 13]⟩,
  ⟨(some 6), none, .mov, [.tm 14]⟩])
 (.seq (.region [⟨(some 16), none, .mov, [.tm 5]⟩,
  ⟨(some 17), none, (.call 57), [.tm 16]⟩,
  ⟨(some 15), none, .mov, [.tm 17]⟩,
  ⟨(some 18), none, (.ext 0), [.tm 15]⟩,
  ⟨(some 19), none, (.ext 1), [.tm 15]⟩,
  ⟨(some 7), none, .mov, [.tm 18]⟩,
  ⟨(some 8), none, .mov, [.tm 19]⟩])
 (.seq (.seq (.region [⟨(some 20), none, .mov, [.tm 8]⟩,
  ⟨(some 21), none, (.cmp .neq), [.tm 20, .cn (.int .i64 0)]⟩,
  ⟨(some 22), none, .mov, [.tm 21]⟩,
  ⟨(some 23), (some (22, false)), .mov, [.tm 7]⟩,
  ⟨(some 24), (some (22, false)), (.cmp .gtr), [.tm 23, .cn (.int .u64 4611686018427387904)]⟩,
  ⟨(some 25), none, .or, [.tm 22, .tm 24]⟩])
 (.cond (.tm 25) (.seq (.region [⟨(some 2), none, .mov, [.cn (.int .i64 0)]⟩,
  ⟨(some 3), none, .mov, [.cn (.bool false)]⟩])
 .ret)
  .skip))
 (.seq (.seq (.region [⟨(some 26), none, .mov, [.tm 4]⟩])
 (.cond (.tm 26) (.seq (.region [⟨(some 27), none, .mov, [.tm 7]⟩,
  ⟨(some 28), none, (.conv .i64), [.tm 27]⟩,
  ⟨(some 29), none, .neg, [.tm 28]⟩,
  ⟨(some 2), none, .mov, [.tm 29]⟩,
  ⟨(some 3), none, .mov, [.cn (.bool true)]⟩])
 .ret)
  .skip))
 (.seq (.region [⟨(some 30), none, .mov, [.tm 7]⟩,
  ⟨(some 31), none, (.conv .i64), [.tm 30]⟩,
  ⟨(some 2), none, .mov, [.tm 31]⟩,
  ⟨(some 3), none, .mov, [.cn (.bool true)]⟩])
 .ret)))))) }
theorem v73_is : vfunc Try.prog Try.f73 = some v73 := by kernel_rfl
def v74 : VF := { ntmps := 27, res := [.tmp 2, .tmp 3], body :=
 (.seq (.region [⟨(some 1), none, .box, [.tm 0]⟩,
  ⟨(some 2), none, .mov, [.cn (.int .i64 0)]⟩,
  ⟨(some 3), none, .mov, [.cn (.bool false)]⟩])
 (.seq (.region [⟨(some 7), none, (.fieldAddr 0), [.tm 1]⟩,
  ⟨(some 8), none, (.load false 1), [.tm 7]⟩,
  ⟨(some 9), none, .not, [.tm 8]⟩,
  ⟨(some 10), none, .mov, [.tm 9]⟩,
  ⟨(some 11), (some (10, true)), (.fieldAddr 1), [.tm 1]⟩,
  ⟨(some 12), (some (10, true)), (.load false 1), [.tm 11]⟩,
  ⟨(some 13), (some (10, true)), .len, [.tm 12]⟩,
  ⟨(some 14), (some (10, true)), (.cmp .gtr), [.tm 13, .cn (.int .i64 0)]⟩,
  ⟨(some 15), none, .and, [.tm 10, .tm 14]⟩,
  ⟨(some 16), none, (.fieldAddr 1), [.tm 1]⟩,
  ⟨(some 17), none, (.load false 1), [.tm 16]⟩,
  ⟨(some 18), none, (.fieldAddr 2), [.tm 1]⟩,
  ⟨(some 19), none, (.load false 1), [.tm 18]⟩,
  ⟨(some 20), none, (.build [(.bool false), .nil, .nil] [(0, 1), (1, 1), (2, 1)]), [.tm 15, .tm 17, .tm 19]⟩,
  ⟨(some 21), none, (.call 73), [.tm 20]⟩,
  ⟨(some 6), none, .mov, [.tm 21]⟩,
  ⟨(some 22), none, (.ext 0), [.tm 6]⟩,
  ⟨(some 23), none, (.ext 1), [.tm 6]⟩,
  ⟨(some 4), none, .mov, [.tm 22]⟩,
  ⟨(some 5), none, .mov, [.tm 23]⟩])
 (.seq (.region [⟨(some 24), none, .mov, [.tm 4]⟩,
  ⟨(some 25), none, .neg, [.tm 24]⟩,
  ⟨(some 26), none, .mov, [.tm 5]⟩,
  ⟨(some 2), none, .mov, [.tm 25]⟩,
  ⟨(some 3), none, .mov, [.tm 26]⟩])
 .ret))) }
theorem v74_is : vfunc Try.prog Try.f74 = some v74 := by kernel_rfl
def v49 : VF := { ntmps := 75, res := [.cell 2 true 2, .tmp 3], body :=
 (.seq (.region [⟨(some 2), none, (.alloc [(.int .i64 0), (.int .i64 0)]), []⟩,
  ⟨(some 3), none, .mov, [.cn (.int .i64 0)]⟩])
 (.seq (.draw [(4, .box [(.bool false), .nil, .nil]), (5, .box [(.bool false), .nil, .nil])] [⟨⟨(some 13), none, .mov, [.tm 0]⟩, []⟩,
  ⟨⟨(some 14), none, (.idxAddr 3), [.tm 13, .cn (.int .i64 0)]⟩, []⟩,
  ⟨⟨(some 15), none, (.load true 3), [.tm 14]⟩, []⟩,
  ⟨⟨(some 16), none, .mov, [.tm 0]⟩, []⟩,
  ⟨⟨(some 17), none, (.idxAddr 3), [.tm 16, .cn (.int .i64 0)]⟩, []⟩,
  ⟨⟨(some 18), none, (.load true 3), [.tm 17]⟩, []⟩,
  ⟨⟨none, none, (.store 3), [.tm 4, .tm 15]⟩, [.tm 17]⟩,
  ⟨⟨none, none, (.store 3), [.tm 5, .tm 18]⟩, []⟩])
 (.seq (.seq (.region [⟨(some 6), none, .mov, [.cn (.int .i64 1)]⟩])
 (.block 0 (.loop (.seq (.seq (.region [⟨(some 19), none, .mov, [.tm 6]⟩,
  ⟨(some 20), none, .mov, [.tm 0]⟩,
  ⟨(some 21), none, .len, [.tm 20]⟩,
  ⟨(some 22), none, (.cmp .lss), [.tm 19, .tm 21]⟩])
 (.cond (.tm 22) .skip
  (.exit 0)))
 (.seq (.block 1 (.seq (.draw [] [⟨⟨(some 26), none, .mov, [.tm 0]⟩, []⟩,
  ⟨⟨(some 27), none, .mov, [.tm 6]⟩, []⟩,
  ⟨⟨(some 28), none, (.idxAddr 3), [.tm 26, .tm 27]⟩, []⟩,
  ⟨⟨(some 29), none, (.load true 3), [.tm 28]⟩, []⟩,
  ⟨⟨(some 30), none, (.load true 3), [.tm 4]⟩, []⟩,
  ⟨⟨(some 31), none, (.call 72), [.tm 29, .tm 30]⟩, []⟩,
  ⟨⟨(some 25), none, .mov, [.tm 31]⟩, []⟩,
  ⟨⟨(some 32), none, (.ext 0), [.tm 25]⟩, []⟩,
  ⟨⟨(some 33), none, (.ext 1), [.tm 25]⟩, []⟩,
  ⟨⟨(some 7), none, .mov, [.tm 32]⟩, []⟩,
  ⟨⟨(some 8), none, .mov, [.tm 33]⟩, []⟩])
 (.seq (.seq (.region [⟨(some 34), none, .mov, [.tm 7]⟩,
  ⟨(some 35), none, (.cmp .lss), [.tm 34, .cn (.int .i64 0)]⟩])
 (.cond (.tm 35) (.region [⟨(some 36), none, .mov, [.tm 0]⟩,
  ⟨(some 37), none, .mov, [.tm 6]⟩,
  ⟨(some 38), none, (.idxAddr 3), [.tm 36, .tm 37]⟩,
  ⟨(some 39), none, (.load true 3), [.tm 38]⟩,
  ⟨none, none, (.store 3), [.tm 4, .tm 39]⟩])
  .skip))
 (.seq (.draw [] [⟨⟨(some 41), none, .mov, [.tm 0]⟩, []⟩,
  ⟨⟨(some 42), none, .mov, [.tm 6]⟩, []⟩,
  ⟨⟨(some 43), none, (.idxAddr 3), [.tm 41, .tm 42]⟩, []⟩,
  ⟨⟨(some 44), none, (.load true 3), [.tm 43]⟩, []⟩,
  ⟨⟨(some 45), none, (.load true 3), [.tm 5]⟩, []⟩,
  ⟨⟨(some 46), none, (.call 72), [.tm 44, .tm 45]⟩, []⟩,
  ⟨⟨(some 40), none, .mov, [.tm 46]⟩, []⟩,
  ⟨⟨(some 47), none, (.ext 0), [.tm 40]⟩, []⟩,
  ⟨⟨(some 48), none, (.ext 1), [.tm 40]⟩, []⟩,
  ⟨⟨(some 7), none, .mov, [.tm 47]⟩, []⟩])
 (.seq (.region [⟨(some 49), none, .mov, [.tm 7]⟩,
  ⟨(some 50), none, (.cmp .gtr), [.tm 49, .cn (.int .i64 0)]⟩])
 (.cond (.tm 50) (.region [⟨(some 51), none, .mov, [.tm 0]⟩,
  ⟨(some 52), none, .mov, [.tm 6]⟩,
  ⟨(some 53), none, (.idxAddr 3), [.tm 51, .tm 52]⟩,
  ⟨(some 54), none, (.load true 3), [.tm 53]⟩,
  ⟨none, none, (.store 3), [.tm 5, .tm 54]⟩])
  .skip))))))
 (.region [⟨(some 23), none, .mov, [.tm 6]⟩,
  ⟨(some 24), none, (.ari .add), [.tm 23, .cn (.int .i64 1)]⟩,
  ⟨(some 6), none, .mov, [.tm 24]⟩]))))))
 (.seq (.region [⟨(some 56), none, (.load true 3), [.tm 4]⟩,
  ⟨(some 57), none, (.call 73), [.tm 56]⟩,
  ⟨(some 55), none, .mov, [.tm 57]⟩,
  ⟨(some 58), none, (.ext 0), [.tm 55]⟩,
  ⟨(some 59), none, (.ext 1), [.tm 55]⟩,
  ⟨(some 9), none, .mov, [.tm 58]⟩,
  ⟨(some 10), none, .mov, [.tm 59]⟩])
 (.seq (.region [⟨(some 61), none, (.load true 3), [.tm 5]⟩,
  ⟨(some 62), none, (.call 74), [.tm 61]⟩,
  ⟨(some 60), none, .mov, [.tm 62]⟩,
  ⟨(some 63), none, (.ext 0), [.tm 60]⟩,
  ⟨(some 64), none, (.ext 1), [.tm 60]⟩,
  ⟨(some 11), none, .mov, [.tm 63]⟩,
  ⟨(some 12), none, .mov, [.tm 64]⟩])
 (.seq (.seq (.region [⟨(some 65), none, .mov, [.tm 10]⟩,
  ⟨(some 66), none, .not, [.tm 65]⟩,
  ⟨(some 67), none, .mov, [.tm 66]⟩,
  ⟨(some 68), (some (67, false)), .mov, [.tm 12]⟩,
  ⟨(some 69), (some (67, false)), .not, [.tm 68]⟩,
  ⟨(some 70), none, .or, [.tm 67, .tm 69]⟩])
 (.cond (.tm 70) (.seq (.region [⟨(some 71), none, (.build [(.int .i64 0), (.int .i64 0)] []), []⟩,
  ⟨none, none, (.store 2), [.tm 2, .tm 71]⟩,
  ⟨(some 3), none, .mov, [.cn (.int .i64 7)]⟩])
 .ret)
  .skip))
 (.seq (.region [⟨(some 72), none, .mov, [.tm 9]⟩,
  ⟨(some 73), none, .mov, [.tm 11]⟩,
  ⟨(some 74), none, (.build [(.int .i64 0), (.int .i64 0)] [(0, 1), (1, 1)]), [.tm 72, .tm 73]⟩,
  ⟨none, none, (.store 2), [.tm 2, .tm 74]⟩,
  ⟨(some 3), none, .mov, [.cn (.int .i64 0)]⟩])
 .ret))))))) }
theorem v49_is : vfunc Try.prog Try.f49 = some v49 := by kernel_rfl


theorem frOk_8 {p : Fr} (hd : 0 < p.2) (h1 : p.1.natAbs < 4294967296 ^ 8) (h2 : p.2 < 4294967296 ^ 8) : frOk p :=
  ⟨hd, Nat.le_trans (nl_le.2 (Nat.lt_of_le_of_lt (rnum_le _ _) h1)) (by decide), Nat.le_trans (nl_le.2 (Nat.lt_of_le_of_lt (rden_le _ _) h2)) (by decide)⟩
theorem frOk_1 {n : Int} (h : -4611686018427387904 ≤ n ∧ n ≤ 4611686018427387904) : frOk (n, 1) :=
  frOk_8 (show 0 < 1 by decide) (by dsimp only; omega) (show 1 < 4294967296 ^ 8 by decide)
theorem rnum_1 (n : Int) : rnum n 1 = n.natAbs := by simp [rnum, fg]
theorem rden_1 (n : Int) : rden n 1 = 1 := by simp [rden, fg]
theorem fl_red (p : Fr) (hd : 0 < p.2) : p.1 / (p.2 : Int) = nsg (decide (p.1 < 0)) (rnum p.1 p.2) / (rden p.1 p.2 : Int) := by
  have h1 := n_eq p.1 p.2
  have h2 := d_eq p.1 p.2
  have hg : 0 < ((fg p.1 p.2 : Nat) : Int) := by have := fg_pos (n := p.1) hd; omega
  conv => lhs; rw [h1, h2]
  exact Int.mul_ediv_mul_of_pos_left _ _ hg
theorem fl_abs {p : Fr} (hd : 0 < p.2) : (p.1 / (p.2 : Int)).natAbs ≤ rnum p.1 p.2 := by
  rw [fl_red p hd]
  have hr := rden_pos (n := p.1) hd
  have := quo_absM (x := nsg (decide (p.1 < 0)) (rnum p.1 p.2)) (y := (rden p.1 p.2 : Int)) (M := (rnum p.1 p.2 : Int)) (by unfold nsg; split <;> omega) (by omega)
  omega

theorem ans_frA {k : SV → List HO → Prop} {al : Bool} {hp : List HO} {p : Fr} (h : k (.agg (encF true p)) []) : answers al k (.agg (encF true p)) hp :=
  ans_le h (le_self _ ⟨trivial, trivial, trivial, trivial⟩) (fun _ => by simp [encF, natV, freshS, freshL])
theorem ans_ib' {k : SV → List HO → Prop} {al : Bool} {hp : List HO} {κ : IntKind} {x : Int} {b : Bool} (h : k (.tup [.int κ x, .bool b]) []) : answers al k (.tup [.int κ x, .bool b]) hp :=
  ans_le h (le_self _ ⟨trivial, trivial, trivial⟩) (fun _ => by simp [freshS, freshL])

def quoiC : Ctr := { alias := false, of := fun l => match l with
  | [.int .i64 n] => .pre (-4611686018427387904 ≤ n ∧ n ≤ 4611686018427387904) (.fin (.agg (encF true (n, 1))) [])
  | _ => noC }
def ofrC : Ctr := { alias := false, of := fun l => match l with
  | [.int .i64 n, .int .i64 d] => .pre ((-4611686018427387904 ≤ n ∧ n ≤ 4611686018427387904) ∧ 0 < d ∧ d ≤ 4611686018427387904) (.fin (.agg (encF true (n, d.toNat))) [])
  | _ => noC }
def floC (up : Bool) : Ctr := { alias := false, of := fun l => match l with
  | [.agg [.bool neg, .vs _ z1 n1 s1 g1, .vs _ z2 n2 s2 g2]] => .ex Fr fun p => .pre (fracP p neg z1 n1 s1 g1 z2 n2 s2 g2) (.fin (.tup [.int .i64 (rndF up p.1 p.2).1, .bool (rndF up p.1 p.2).2]) [])
  | _ => noC }

def floorC := floC false
def ceilC := floC true

def S1 : Env := { ct := fun n => match n with | 55 => some ofC | 88 => some qfloorC | 57 => some smallC | _ => none, fn := fun _ => none, meth := fun _ _ => none }
theorem S1_ct55 : S1.ct 55 = some ofC := rfl
theorem S1_ct88 : S1.ct 88 = some qfloorC := rfl
theorem S1_ct57 : S1.ct 57 = some smallC := rfl
theorem S1_ok : EnvOk Try.prog S1 := by
  refine ⟨fun f c h => ?_, fun f vf h => ?_, fun _ _ => rfl, by kernel_rfl⟩
  · simp only [S1] at h
    split at h
    · cases h; exact ⟨of_ok, Try.f55, Try.func55, by kernel_rfl, by kernel_rfl⟩
    · cases h; exact ⟨qfloor_ok, Try.f88, Try.func88, by kernel_rfl, by kernel_rfl⟩
    · cases h; exact ⟨small_ok, Try.f57, Try.func57, by kernel_rfl, by kernel_rfl⟩
    · cases h
  · cases h


theorem quoi_ok : quoiC.ok Try.prog 48 := by
  refine contract Try.func48 v48_is S1_ok 200 quoiC fun args k h => ⟨args, ?_⟩
  simp only [quoiC] at h
  split at h
  · rename_i n
    obtain ⟨hn, h⟩ := h
    refine ⟨by simp [leL, le], ?_⟩
    dsimp only [v48, S1_ct55, ofC, natS, r_end, r_end1, r_nil, r_op, r_opg, r_runOp, r_op0, r_yld0, r_yld1, r_y, r_rbeg, r_rend, r_rend1, r_rfrm, r_rfrm1, r_range, r_rangeK, r_rangeE, r_draw, r_dnil, r_dop, r_dopg, r_dplq, r_dplh, r_dq, r_dq0, r_dcl1, r_dcl0, r_dct1, r_dct0, r_dgd, r_dgq1, r_dgq0, r_dctG, r_op1, r_eff, r_eff0, r_call, r_call0, r_inl, r_g, r_gq, r_gc, r_effg, r_effg0, r_callg, r_callg0, r_fin, r_pre, r_imp, r_all, r_ex, r_fing, r_preg, r_exg, r_inBlock, r_inLoop, r_frame, r_frame1, r_skip, r_stuck, r_region, r_seq, r_cond, r_cond1, r_block, r_exit, r_exit1, r_exit2, r_ret, r_loop, s_args0, s_args1, s_xt, s_xc, padL, blankL, callee, callArgs, eff, ctOf, getL, setL, S.put, S.upd, unopts, unopt, unoptsO, unoptsB, lazyO, guardOf, gbool, eMov, eNot, eNeg, eConv, eExt, eLenArr, eLen, eLenStr, eEqb, eEqv, allEq, eNil, negIf, eBool2, eCmp, eAri, ari, eBit, eDiv, eSh, eMinMax, foldMin, foldMax, kEq, pure1, cmpB, VO.quiet, resVals, resVal, tupled, popRet, popTo, cond, Option.bind, Option.map, eNew, eBox, asCells, lenH, snocH, eFieldAddr, eField, eLoad, cellsAt, getH, setH, dropL, takeL, mkAgg, lenL, lenS, shift, shiftL, shiftH, viewN, viewL, view, andT, junks, List.append_nil, Nat.beq, eIdxAddr, eIdxArr, idxN_0, idxN_1, idxN_2, idxN_3, eIndex, eStore, storeAt, spliceL, ones, one, eSlice, eSliceArr, bounds, subLo_z, addLo_z, subLo_one, addLo_one, eMake, eAppend, readS, repL, buildCells, chunk, purgeL, purgeLL, purgeH, purge, refs, refsL, List.cons_append, List.nil_append, wrOps, wrAl, wrDops, wrC, junkAt, putAll, putHs, headOf, headK, keepG, List.append_eq, headX, chkP, apartP, apartB, blk, strip, runAl, AL.ho, yld, putPs, lenN, findR, notRound, jumpK, jumpPT, jcode, List.map_cons, List.map_nil, ite_self, reduceIte]
    simp only [true_and, and_true, imp_self, implies_true, decide_eq_true_eq, decide_eq_false_iff_not, Nat.reduceAdd, Nat.reduceLeDiff, Bool.not_not, reduceCtorEq, false_imp_iff, Bool.not_eq_true', Bool.not_eq_false', Bool.false_eq_true, and_self, forall_const, ne_eq, not_false_eq_true, Nat.reduceEqDiff]
    have h : k (.agg (encF true (n, 1))) [] := h
    have e : encF true (n, 1) = [.bool (decide (n < 0)), natV true false n.natAbs, natV true false 1] := by unfold encF; rw [rnum_1, rden_1]
    refine ⟨fun h0 => ?_, fun h0 => ?_⟩
    · have w1 : IntKind.u64.wrap (IntKind.i64.wrap (0 - n)) = -n := by rw [IntWalk.i64_in (0 - n) (by omega), IntWalk.u64_in _ (by omega)]; omega
      have w2 : (-n).toNat = n.natAbs := by omega
      rw [w1, w2]
      refine ⟨by omega, by decide, ?_⟩
      have h2 := ans_frA (al := quoiC.alias) (hp := [HO.box (encF true (n, 1))]) h
      rw [e, decide_eq_true h0] at h2; exact h2
    · have w1 : IntKind.u64.wrap n = n := IntWalk.u64_in _ (by omega)
      have w2 : n.toNat = n.natAbs := by omega
      rw [w1, w2]
      refine ⟨by omega, by decide, ?_⟩
      have h2 := ans_frA (al := quoiC.alias) (hp := [HO.box (encF true (n, 1))]) h
      rw [e, decide_eq_false h0] at h2; exact h2
  · exact h.1.elim

theorem flo_ok : floorC.ok Try.prog 73 := by
  refine contract Try.func73 v73_is S1_ok 200 floorC fun args k h => ?_
  simp only [floorC, ceilC, floC] at h
  split at h
  · rename_i neg t1 z1 n1 s1 g1 t2 z2 n2 s2 g2
    obtain ⟨p, hp, h⟩ := h
    refine ⟨[.agg (encF false p)], ⟨fr_le hp, trivial⟩, ?_⟩
    have hok := hp.1
    clear hp
    dsimp only [v73, S1_ct88, S1_ct57, qfloorC, smallC, natS, natV, encF, r_end, r_end1, r_nil, r_op, r_opg, r_runOp, r_op0, r_yld0, r_yld1, r_y, r_rbeg, r_rend, r_rend1, r_rfrm, r_rfrm1, r_range, r_rangeK, r_rangeE, r_draw, r_dnil, r_dop, r_dopg, r_dplq, r_dplh, r_dq, r_dq0, r_dcl1, r_dcl0, r_dct1, r_dct0, r_dgd, r_dgq1, r_dgq0, r_dctG, r_op1, r_eff, r_eff0, r_call, r_call0, r_inl, r_g, r_gq, r_gc, r_effg, r_effg0, r_callg, r_callg0, r_fin, r_pre, r_imp, r_all, r_ex, r_fing, r_preg, r_exg, r_inBlock, r_inLoop, r_frame, r_frame1, r_skip, r_stuck, r_region, r_seq, r_cond, r_cond1, r_block, r_exit, r_exit1, r_exit2, r_ret, r_loop, s_args0, s_args1, s_xt, s_xc, padL, blankL, callee, callArgs, eff, ctOf, getL, setL, S.put, S.upd, unopts, unopt, unoptsO, unoptsB, lazyO, guardOf, gbool, eMov, eNot, eNeg, eConv, eExt, eLenArr, eLen, eLenStr, eEqb, eEqv, allEq, eNil, negIf, eBool2, eCmp, eAri, ari, eBit, eDiv, eSh, eMinMax, foldMin, foldMax, kEq, pure1, cmpB, VO.quiet, resVals, resVal, tupled, popRet, popTo, cond, Option.bind, Option.map, eNew, eBox, asCells, lenH, snocH, eFieldAddr, eField, eLoad, cellsAt, getH, setH, dropL, takeL, mkAgg, lenL, lenS, shift, shiftL, shiftH, viewN, viewL, view, andT, junks, List.append_nil, Nat.beq, eIdxAddr, eIdxArr, idxN_0, idxN_1, idxN_2, idxN_3, eIndex, eStore, storeAt, spliceL, ones, one, eSlice, eSliceArr, bounds, subLo_z, addLo_z, subLo_one, addLo_one, eMake, eAppend, readS, repL, buildCells, chunk, purgeL, purgeLL, purgeH, purge, refs, refsL, List.cons_append, List.nil_append, wrOps, wrAl, wrDops, wrC, junkAt, putAll, putHs, headOf, headK, keepG, List.append_eq, headX, chkP, apartP, apartB, blk, strip, runAl, AL.ho, yld, putPs, lenN, findR, notRound, jumpK, jumpPT, jcode, List.map_cons, List.map_nil, ite_self, reduceIte]
    simp only [true_and, and_true, imp_self, implies_true, decide_eq_true_eq, decide_eq_false_iff_not, Nat.reduceAdd, Nat.reduceLeDiff, Bool.not_not, reduceCtorEq, false_imp_iff, Bool.not_eq_true', Bool.not_eq_false', Bool.false_eq_true, and_self, forall_const, ne_eq, not_false_eq_true, Nat.reduceEqDiff]
    have hN : nl (p.1 / (p.2 : Int)).natAbs ≤ 512 := Nat.le_trans (nl_mono (fl_abs hok.1)) hok.2.1
    have h : k (.tup [.int .i64 (rndB (p.1 / (p.2 : Int))).1, .bool (rndB (p.1 / (p.2 : Int))).2]) [] := h
    have s1 : p.1 < 0 → p.1 / (p.2 : Int) < 0 := fun hn => Int.ediv_neg_of_neg_of_pos hn (by have := hok.1; omega)
    have s2 : ¬ p.1 < 0 → 0 ≤ p.1 / (p.2 : Int) := fun hn => Int.ediv_nonneg (by omega) (by omega)
    refine ⟨p, fracP_self hok, by decide, by decide, by decide, (p.1 / (p.2 : Int)).natAbs, ⟨padP_nl (by omega), rfl, hN⟩, by decide, by decide, ?_⟩
    clear hN
    generalize p.1 / (p.2 : Int) = q at *
    have key : (!decide ((if q.natAbs < 18446744073709551616 then (0 : Int) else 7) = 0) || decide ((4611686018427387904 : Int) < if q.natAbs < 18446744073709551616 then (q.natAbs : Int) else 0)) = decide (4611686018427387904 < q.natAbs) := by
      by_cases hN : q.natAbs < 18446744073709551616
      · rw [if_pos hN, if_pos hN, Bool.eq_iff_iff]; simp only [decide_true, Bool.not_true, Bool.false_or, decide_eq_true_eq]; omega
      · rw [if_neg hN, if_neg hN, Bool.eq_iff_iff]; simp only [decide_eq_true_eq]; simp; omega
    rw [key]
    refine ⟨fun hb => ?_, fun hb => ⟨fun hn => ?_, fun hn => ?_⟩⟩
    · rw [decide_eq_true_eq] at hb
      rw [rndB, if_neg (by omega)] at h
      exact ans_ib' h
    · rw [decide_eq_false_iff_not] at hb
      have := s1 hn
      rw [rndB, if_pos (by omega)] at h
      have w : IntKind.i64.wrap (0 - IntKind.i64.wrap (if q.natAbs < 18446744073709551616 then (q.natAbs : Int) else 0)) = q := by
        rw [if_pos (by omega), IntWalk.i64_in ((q.natAbs : Int)) (by omega), IntWalk.i64_in _ (by omega)]; omega
      rw [w]; exact ans_ib' h
    · rw [decide_eq_false_iff_not] at hb
      have := s2 hn
      rw [rndB, if_pos (by omega)] at h
      have w : IntKind.i64.wrap (if q.natAbs < 18446744073709551616 then (q.natAbs : Int) else 0) = q := by
        rw [if_pos (by omega), IntWalk.i64_in _ (by omega)]; omega
      rw [w]; exact ans_ib' h
  · exact h.1.elim

def loQ (x : Fr) (r : List Fr) : Fr := r.foldl (fun low y => if cmpQ y.1 y.2 low.1 low.2 < 0 then y else low) x
def hiQ (x : Fr) (r : List Fr) : Fr := r.foldl (fun high y => if 0 < cmpQ y.1 y.2 high.1 high.2 then y else high) x
def spanQ (x : Fr) (r : List Fr) : Iv × Int := spanR (rndF false (loQ x r).1 (loQ x r).2) (rndF true (hiQ x r).1 (hiQ x r).2)
def spanqC : Ctr := { alias := false, of := fun l => match l with
  | [.vs _ _ n sz get] => .ex Fr fun x => .ex (List Fr) fun r => .pre (lsP 3 (encF false) n sz get (x :: r) ∧ (x :: r).length ≤ 1000 ∧ ∀ p ∈ x :: r, frOk p) (.fin (.tup [.agg (enc2 (spanQ x r).1), .int .i64 (spanQ x r).2]) [])
  | _ => noC }

def S2 : Env := { ct := fun n => match n with | 48 => some quoiC | 68 => some qdivC | 73 => some floorC | _ => none, fn := fun _ => none, meth := fun _ _ => none }
theorem S2_ct48 : S2.ct 48 = some quoiC := rfl
theorem S2_ct68 : S2.ct 68 = some qdivC := rfl
theorem S2_ct73 : S2.ct 73 = some floorC := rfl
theorem S2_ok : EnvOk Try.prog S2 := by
  refine ⟨fun f c h => ?_, fun f vf h => ?_, fun _ _ => rfl, by kernel_rfl⟩
  · simp only [S2] at h
    split at h
    · cases h; exact ⟨quoi_ok, Try.f48, Try.func48, by kernel_rfl, by kernel_rfl⟩
    · cases h; exact ⟨qdiv_ok, Try.f68, Try.func68, by kernel_rfl, by kernel_rfl⟩
    · cases h; exact ⟨flo_ok, Try.f73, Try.func73, by kernel_rfl, by kernel_rfl⟩
    · cases h
  · cases h


theorem ofr_ok : ofrC.ok Try.prog 46 := by
  refine contract Try.func46 v46_is S2_ok 200 ofrC fun args k h => ⟨args, ?_⟩
  simp only [ofrC] at h
  split at h
  · rename_i n d
    obtain ⟨⟨hn, hd0, hd⟩, h⟩ := h
    refine ⟨by simp [leL, le], ?_⟩
    dsimp only [v46, S2_ct48, S2_ct68, quoiC, qdivC, natS, natV, encF, r_end, r_end1, r_nil, r_op, r_opg, r_runOp, r_op0, r_yld0, r_yld1, r_y, r_rbeg, r_rend, r_rend1, r_rfrm, r_rfrm1, r_range, r_rangeK, r_rangeE, r_draw, r_dnil, r_dop, r_dopg, r_dplq, r_dplh, r_dq, r_dq0, r_dcl1, r_dcl0, r_dct1, r_dct0, r_dgd, r_dgq1, r_dgq0, r_dctG, r_op1, r_eff, r_eff0, r_call, r_call0, r_inl, r_g, r_gq, r_gc, r_effg, r_effg0, r_callg, r_callg0, r_fin, r_pre, r_imp, r_all, r_ex, r_fing, r_preg, r_exg, r_inBlock, r_inLoop, r_frame, r_frame1, r_skip, r_stuck, r_region, r_seq, r_cond, r_cond1, r_block, r_exit, r_exit1, r_exit2, r_ret, r_loop, s_args0, s_args1, s_xt, s_xc, padL, blankL, callee, callArgs, eff, ctOf, getL, setL, S.put, S.upd, unopts, unopt, unoptsO, unoptsB, lazyO, guardOf, gbool, eMov, eNot, eNeg, eConv, eExt, eLenArr, eLen, eLenStr, eEqb, eEqv, allEq, eNil, negIf, eBool2, eCmp, eAri, ari, eBit, eDiv, eSh, eMinMax, foldMin, foldMax, kEq, pure1, cmpB, VO.quiet, resVals, resVal, tupled, popRet, popTo, cond, Option.bind, Option.map, eNew, eBox, asCells, lenH, snocH, eFieldAddr, eField, eLoad, cellsAt, getH, setH, dropL, takeL, mkAgg, lenL, lenS, shift, shiftL, shiftH, viewN, viewL, view, andT, junks, List.append_nil, Nat.beq, eIdxAddr, eIdxArr, idxN_0, idxN_1, idxN_2, idxN_3, eIndex, eStore, storeAt, spliceL, ones, one, eSlice, eSliceArr, bounds, subLo_z, addLo_z, subLo_one, addLo_one, eMake, eAppend, readS, repL, buildCells, chunk, purgeL, purgeLL, purgeH, purge, refs, refsL, List.cons_append, List.nil_append, wrOps, wrAl, wrDops, wrC, junkAt, putAll, putHs, headOf, headK, keepG, List.append_eq, headX, chkP, apartP, apartB, blk, strip, runAl, AL.ho, yld, putPs, lenN, findR, notRound, jumpK, jumpPT, jcode, List.map_cons, List.map_nil, ite_self, reduceIte]
    simp only [true_and, and_true, imp_self, implies_true, decide_eq_true_eq, decide_eq_false_iff_not, Nat.reduceAdd, Nat.reduceLeDiff, Bool.not_not, reduceCtorEq, false_imp_iff, Bool.not_eq_true', Bool.not_eq_false', Bool.false_eq_true, and_self, forall_const, ne_eq, not_false_eq_true, Nat.reduceEqDiff]
    have h : k (.agg (encF true (n, d.toNat))) [] := h
    have e : divF (n, 1) (d, 1) = (n, d.toNat) := by
      have h1 : ¬ d < 0 := by omega
      have h2 : d.natAbs = d.toNat := by omega
      simp [divF, nsg, h1, h2]
    rw [← e] at h
    refine ⟨hn, by omega, (n, 1), (d, 1), ⟨fracP_self (frOk_1 hn), fracP_self (frOk_1 (by omega)), by show ¬ d = 0; omega, by rw [e]; exact frOk_8 (by dsimp only; omega) (by dsimp only; omega) (by dsimp only; omega)⟩, by decide, by decide, ?_⟩
    exact ans_frA h
  · exact h.1.elim

theorem rndB_neg (t : Int) : rndB (-t) = (-(rndB t).1, (rndB t).2) := by
  unfold rndB
  by_cases h : -4611686018427387904 ≤ t ∧ t ≤ 4611686018427387904
  · rw [if_pos h, if_pos (by omega)]
  · rw [if_neg h, if_neg (by omega)]; rfl
theorem rndB_bnd (t : Int) : -4611686018427387904 ≤ (rndB t).1 ∧ (rndB t).1 ≤ 4611686018427387904 := by
  unfold rndB; split
  · assumption
  · simp
theorem cei_ok : ceilC.ok Try.prog 74 := by
  refine contract Try.func74 v74_is S2_ok 200 ceilC fun args k h => ?_
  simp only [floorC, ceilC, floC] at h
  split at h
  · rename_i neg t1 z1 n1 s1 g1 t2 z2 n2 s2 g2
    obtain ⟨p, hp, h⟩ := h
    refine ⟨[.agg (encF false p)], ⟨fr_le hp, trivial⟩, ?_⟩
    have hok := hp.1
    clear hp
    dsimp only [v74, S2_ct73, floorC, floC, natS, natV, encF, r_end, r_end1, r_nil, r_op, r_opg, r_runOp, r_op0, r_yld0, r_yld1, r_y, r_rbeg, r_rend, r_rend1, r_rfrm, r_rfrm1, r_range, r_rangeK, r_rangeE, r_draw, r_dnil, r_dop, r_dopg, r_dplq, r_dplh, r_dq, r_dq0, r_dcl1, r_dcl0, r_dct1, r_dct0, r_dgd, r_dgq1, r_dgq0, r_dctG, r_op1, r_eff, r_eff0, r_call, r_call0, r_inl, r_g, r_gq, r_gc, r_effg, r_effg0, r_callg, r_callg0, r_fin, r_pre, r_imp, r_all, r_ex, r_fing, r_preg, r_exg, r_inBlock, r_inLoop, r_frame, r_frame1, r_skip, r_stuck, r_region, r_seq, r_cond, r_cond1, r_block, r_exit, r_exit1, r_exit2, r_ret, r_loop, s_args0, s_args1, s_xt, s_xc, padL, blankL, callee, callArgs, eff, ctOf, getL, setL, S.put, S.upd, unopts, unopt, unoptsO, unoptsB, lazyO, guardOf, gbool, eMov, eNot, eNeg, eConv, eExt, eLenArr, eLen, eLenStr, eEqb, eEqv, allEq, eNil, negIf, eBool2, eCmp, eAri, ari, eBit, eDiv, eSh, eMinMax, foldMin, foldMax, kEq, pure1, cmpB, VO.quiet, resVals, resVal, tupled, popRet, popTo, cond, Option.bind, Option.map, eNew, eBox, asCells, lenH, snocH, eFieldAddr, eField, eLoad, cellsAt, getH, setH, dropL, takeL, mkAgg, lenL, lenS, shift, shiftL, shiftH, viewN, viewL, view, andT, junks, List.append_nil, Nat.beq, eIdxAddr, eIdxArr, idxN_0, idxN_1, idxN_2, idxN_3, eIndex, eStore, storeAt, spliceL, ones, one, eSlice, eSliceArr, bounds, subLo_z, addLo_z, subLo_one, addLo_one, eMake, eAppend, readS, repL, buildCells, chunk, purgeL, purgeLL, purgeH, purge, refs, refsL, List.cons_append, List.nil_append, wrOps, wrAl, wrDops, wrC, junkAt, putAll, putHs, headOf, headK, keepG, List.append_eq, headX, chkP, apartP, apartB, blk, strip, runAl, AL.ho, yld, putPs, lenN, findR, notRound, jumpK, jumpPT, jcode, List.map_cons, List.map_nil, ite_self, reduceIte]
    simp only [true_and, and_true, imp_self, implies_true, decide_eq_true_eq, decide_eq_false_iff_not, Nat.reduceAdd, Nat.reduceLeDiff, Bool.not_not, reduceCtorEq, false_imp_iff, Bool.not_eq_true', Bool.not_eq_false', Bool.false_eq_true, and_self, forall_const, ne_eq, not_false_eq_true, Nat.reduceEqDiff]
    have t := turn_eq hok.1
    have f := fracP_self (turn_ok hok)
    rw [t.1, t.2.1, ← t.2.2] at f
    have h : k (.tup [.int .i64 (rndB (-((-p.1) / (p.2 : Int)))).1, .bool (rndB (-((-p.1) / (p.2 : Int)))).2]) [] := h
    rw [rndB_neg] at h
    refine ⟨turnF p, f, by decide, by decide, ?_⟩
    have e : rndF false (turnF p).1 ((turnF p).2 : Int) = rndB ((-p.1) / (p.2 : Int)) := rfl
    rw [e]
    have b := rndB_bnd ((-p.1) / (p.2 : Int))
    rw [IntWalk.i64_in _ (by omega), Int.zero_sub]
    exact ans_ib' h
  · exact h.1.elim

def S3 : Env := { ct := fun n => match n with | 72 => some qcmpC | 73 => some floorC | 74 => some ceilC | _ => none, fn := fun _ => none, meth := fun _ _ => none }
theorem S3_ct72 : S3.ct 72 = some qcmpC := rfl
theorem S3_ct73 : S3.ct 73 = some floorC := rfl
theorem S3_ct74 : S3.ct 74 = some ceilC := rfl
theorem S3_ok : EnvOk Try.prog S3 := by
  refine ⟨fun f c h => ?_, fun f vf h => ?_, fun _ _ => rfl, by kernel_rfl⟩
  · simp only [S3] at h
    split at h
    · cases h; exact ⟨qcmp_ok, Try.f72, Try.func72, by kernel_rfl, by kernel_rfl⟩
    · cases h; exact ⟨flo_ok, Try.f73, Try.func73, by kernel_rfl, by kernel_rfl⟩
    · cases h; exact ⟨cei_ok, Try.f74, Try.func74, by kernel_rfl, by kernel_rfl⟩
    · cases h
  · cases h


theorem loQ_mem (x : Fr) : ∀ (r : List Fr), loQ x r ∈ x :: r := by
  intro r
  induction r generalizing x with
  | nil => exact List.mem_cons_self
  | cons a r ih =>
    have e : loQ x (a :: r) = loQ (if cmpQ a.1 a.2 x.1 x.2 < 0 then a else x) r := rfl
    rw [e]
    have h := ih (if cmpQ a.1 a.2 x.1 x.2 < 0 then a else x)
    rcases List.mem_cons.1 h with h | h
    · rw [h]; split <;> simp
    · simp [h]
theorem hiQ_mem (x : Fr) : ∀ (r : List Fr), hiQ x r ∈ x :: r := by
  intro r
  induction r generalizing x with
  | nil => exact List.mem_cons_self
  | cons a r ih =>
    have e : hiQ x (a :: r) = hiQ (if 0 < cmpQ a.1 a.2 x.1 x.2 then a else x) r := rfl
    rw [e]
    have h := ih (if 0 < cmpQ a.1 a.2 x.1 x.2 then a else x)
    rcases List.mem_cons.1 h with h | h
    · rw [h]; split <;> simp
    · simp [h]
theorem take_sub {x a : Fr} {r : List Fr} {i : Nat} (h : a ∈ x :: r.take i) : a ∈ x :: r := by
  rcases List.mem_cons.1 h with h | h
  · simp [h]
  · simp [List.mem_of_mem_take h]

theorem spanq_ok : spanqC.ok Try.prog 49 := by
  refine contract Try.func49 v49_is S3_ok 400 spanqC fun args k h => ?_
  simp only [spanqC] at h
  split at h
  · rename_i tt z n sz get
    obtain ⟨x, r, ⟨⟨rfl, rfl, hg⟩, hmax, hall⟩, h⟩ := h
    refine ⟨[.vs tt z (x :: r).length 3 (fun k => encF false ((x :: r).getD k default))], ⟨by simpa [le] using hg, trivial⟩, ?_⟩
    dsimp only [v49, encF, natV, r_end, r_end1, r_nil, r_op, r_opg, r_runOp, r_op0, r_yld0, r_yld1, r_y, r_rbeg, r_rend, r_rend1, r_rfrm, r_rfrm1, r_range, r_rangeK, r_rangeE, r_draw, r_dnil, r_dop, r_dopg, r_dplq, r_dplh, r_dq, r_dq0, r_dcl1, r_dcl0, r_dct1, r_dct0, r_dgd, r_dgq1, r_dgq0, r_dctG, r_op1, r_eff, r_eff0, r_call, r_call0, r_inl, r_g, r_gq, r_gc, r_effg, r_effg0, r_callg, r_callg0, r_fin, r_pre, r_imp, r_all, r_ex, r_fing, r_preg, r_exg, r_inBlock, r_inLoop, r_frame, r_frame1, r_skip, r_stuck, r_region, r_seq, r_cond, r_cond1, r_block, r_exit, r_exit1, r_exit2, r_ret, r_loop, s_args0, s_args1, s_xt, s_xc, padL, blankL, callee, callArgs, eff, ctOf, getL, setL, S.put, S.upd, unopts, unopt, unoptsO, unoptsB, lazyO, guardOf, gbool, eMov, eNot, eNeg, eConv, eExt, eLenArr, eLen, eLenStr, eEqb, eEqv, allEq, eNil, negIf, eBool2, eCmp, eAri, ari, eBit, eDiv, eSh, eMinMax, foldMin, foldMax, kEq, pure1, cmpB, VO.quiet, resVals, resVal, tupled, popRet, popTo, cond, Option.bind, Option.map, eNew, eBox, asCells, lenH, snocH, eFieldAddr, eField, eLoad, cellsAt, getH, setH, dropL, takeL, mkAgg, lenL, lenS, shift, shiftL, shiftH, viewN, viewL, view, andT, junks, List.append_nil, Nat.beq, eIdxAddr, eIdxArr, idxN_0, idxN_1, idxN_2, idxN_3, eIndex, eStore, storeAt, spliceL, ones, one, eSlice, eSliceArr, bounds, subLo_z, addLo_z, subLo_one, addLo_one, eMake, eAppend, readS, repL, buildCells, chunk, purgeL, purgeLL, purgeH, purge, refs, refsL, List.cons_append, List.nil_append, wrOps, wrAl, wrDops, wrC, junkAt, putAll, putHs, headOf, headK, keepG, List.append_eq, headX, chkP, apartP, apartB, blk, strip, runAl, AL.ho, yld, putPs, lenN, findR, notRound, jumpK, jumpPT, jcode, List.map_cons, List.map_nil, ite_self, reduceIte]
    simp only [true_and, and_true, imp_self, implies_true, decide_eq_true_eq, decide_eq_false_iff_not, Nat.reduceAdd, Nat.reduceLeDiff, Bool.not_not, reduceCtorEq, false_imp_iff, Bool.not_eq_true', Bool.not_eq_false', Bool.false_eq_true, and_self, forall_const, ne_eq, not_false_eq_true, Nat.reduceEqDiff]
    have hlen : ((x :: r).length : Int) = r.length + 1 := by simp
    refine ⟨⟨by decide, by omega⟩, ⟨by decide, by omega⟩, ?_⟩
    refine Loop.keep [0, 1, 0, 0, 0, 0] Nat (fun i => [(6, .int .i64 ((i : Int) + 1))]) (fun i => [(1, .box (encF false (loQ x (r.take i)))), (2, .box (encF false (hiQ x (r.take i))))]) [] (fun i => i ≤ r.length) (fun i => r.length - i) ?_ ?_
    · refine ⟨0, Nat.zero_le _, ?_⟩
      dsimp only [encF, natV, r_end, r_end1, r_nil, r_op, r_opg, r_runOp, r_op0, r_yld0, r_yld1, r_y, r_rbeg, r_rend, r_rend1, r_rfrm, r_rfrm1, r_range, r_rangeK, r_rangeE, r_draw, r_dnil, r_dop, r_dopg, r_dplq, r_dplh, r_dq, r_dq0, r_dcl1, r_dcl0, r_dct1, r_dct0, r_dgd, r_dgq1, r_dgq0, r_dctG, r_op1, r_eff, r_eff0, r_call, r_call0, r_inl, r_g, r_gq, r_gc, r_effg, r_effg0, r_callg, r_callg0, r_fin, r_pre, r_imp, r_all, r_ex, r_fing, r_preg, r_exg, r_inBlock, r_inLoop, r_frame, r_frame1, r_skip, r_stuck, r_region, r_seq, r_cond, r_cond1, r_block, r_exit, r_exit1, r_exit2, r_ret, r_loop, s_args0, s_args1, s_xt, s_xc, padL, blankL, callee, callArgs, eff, ctOf, getL, setL, S.put, S.upd, unopts, unopt, unoptsO, unoptsB, lazyO, guardOf, gbool, eMov, eNot, eNeg, eConv, eExt, eLenArr, eLen, eLenStr, eEqb, eEqv, allEq, eNil, negIf, eBool2, eCmp, eAri, ari, eBit, eDiv, eSh, eMinMax, foldMin, foldMax, kEq, pure1, cmpB, VO.quiet, resVals, resVal, tupled, popRet, popTo, cond, Option.bind, Option.map, eNew, eBox, asCells, lenH, snocH, eFieldAddr, eField, eLoad, cellsAt, getH, setH, dropL, takeL, mkAgg, lenL, lenS, shift, shiftL, shiftH, viewN, viewL, view, andT, junks, List.append_nil, Nat.beq, eIdxAddr, eIdxArr, idxN_0, idxN_1, idxN_2, idxN_3, eIndex, eStore, storeAt, spliceL, ones, one, eSlice, eSliceArr, bounds, subLo_z, addLo_z, subLo_one, addLo_one, eMake, eAppend, readS, repL, buildCells, chunk, purgeL, purgeLL, purgeH, purge, refs, refsL, List.cons_append, List.nil_append, wrOps, wrAl, wrDops, wrC, junkAt, putAll, putHs, headOf, headK, keepG, List.append_eq, headX, chkP, apartP, apartB, blk, strip, runAl, AL.ho, yld, putPs, lenN, findR, notRound, jumpK, jumpPT, jcode, List.map_cons, List.map_nil, ite_self, reduceIte]
      simp only [leS_mk, leL_cons, leL_nil, le_junk, le_int, le_bool, le_nil, leLL_nil, leLL_cons, leH_cons, leH_nil, leH1_box, leH1_own, leH1_gone, le_vs, le_agg, le_tup, le_ptr, le_own, le_xp, le_fn, le_opt, le_val, le_elem, le_nil_own, le_nil_vs, leH_ghost, leL_chunk, leXL_id, bnd_int, bnd_bool, bnd_val, bnd_nil, bnd_junk, bnd_vs, bnd_xp, bnd_agg, bnd_tup, bnd_ptr, bnd_own, bnd_elem, bnd_fn, bnd_iface, bnd_opt, bndL_nil, bndL_cons, lenH_cons, lenH_nil, imp_self, implies_true, true_and, and_true]
      refine ⟨by simp, ?_, ?_⟩ <;> simp [loQ, hiQ] <;> exact ⟨rfl, fun k _ => leXL_self _, fun k _ => leXL_self _⟩
    · rintro i hi
      dsimp only [S3_ct72, S3_ct73, S3_ct74, qcmpC, floorC, ceilC, floC, encF, natV, Int.toNat_natCast, r_end, r_end1, r_nil, r_op, r_opg, r_runOp, r_op0, r_yld0, r_yld1, r_y, r_rbeg, r_rend, r_rend1, r_rfrm, r_rfrm1, r_range, r_rangeK, r_rangeE, r_draw, r_dnil, r_dop, r_dopg, r_dplq, r_dplh, r_dq, r_dq0, r_dcl1, r_dcl0, r_dct1, r_dct0, r_dgd, r_dgq1, r_dgq0, r_dctG, r_op1, r_eff, r_eff0, r_call, r_call0, r_inl, r_g, r_gq, r_gc, r_effg, r_effg0, r_callg, r_callg0, r_fin, r_pre, r_imp, r_all, r_ex, r_fing, r_preg, r_exg, r_inBlock, r_inLoop, r_frame, r_frame1, r_skip, r_stuck, r_region, r_seq, r_cond, r_cond1, r_block, r_exit, r_exit1, r_exit2, r_ret, r_loop, s_args0, s_args1, s_xt, s_xc, padL, blankL, callee, callArgs, eff, ctOf, getL, setL, S.put, S.upd, unopts, unopt, unoptsO, unoptsB, lazyO, guardOf, gbool, eMov, eNot, eNeg, eConv, eExt, eLenArr, eLen, eLenStr, eEqb, eEqv, allEq, eNil, negIf, eBool2, eCmp, eAri, ari, eBit, eDiv, eSh, eMinMax, foldMin, foldMax, kEq, pure1, cmpB, VO.quiet, resVals, resVal, tupled, popRet, popTo, cond, Option.bind, Option.map, eNew, eBox, asCells, lenH, snocH, eFieldAddr, eField, eLoad, cellsAt, getH, setH, dropL, takeL, mkAgg, lenL, lenS, shift, shiftL, shiftH, viewN, viewL, view, andT, junks, List.append_nil, Nat.beq, eIdxAddr, eIdxArr, idxN_0, idxN_1, idxN_2, idxN_3, eIndex, eStore, storeAt, spliceL, ones, one, eSlice, eSliceArr, bounds, subLo_z, addLo_z, subLo_one, addLo_one, eMake, eAppend, readS, repL, buildCells, chunk, purgeL, purgeLL, purgeH, purge, refs, refsL, List.cons_append, List.nil_append, wrOps, wrAl, wrDops, wrC, junkAt, putAll, putHs, headOf, headK, keepG, List.append_eq, headX, chkP, apartP, apartB, blk, strip, runAl, AL.ho, yld, putPs, lenN, findR, notRound, jumpK, jumpPT, jcode, List.map_cons, List.map_nil, ite_self, reduceIte]
      simp only [true_and, and_true, imp_self, implies_true, decide_eq_true_eq, decide_eq_false_iff_not, Nat.reduceAdd, Nat.reduceLeDiff, Bool.not_not, reduceCtorEq, false_imp_iff, Bool.not_eq_true', Bool.not_eq_false', Bool.false_eq_true, and_self, forall_const, ne_eq, not_false_eq_true, Nat.reduceEqDiff]
      have ey : (x :: r).getD ((i : Int) + 1).toNat default = r.getD i default := by
        have : ((i : Int) + 1).toNat = i + 1 := by omega
        rw [this]; rfl
      simp only [ey, hlen]
      have hL : frOk (loQ x (r.take i)) := hall _ (take_sub (loQ_mem x _))
      have hH : frOk (hiQ x (r.take i)) := hall _ (take_sub (hiQ_mem x _))
      refine ⟨fun hlt => ?_, fun hge => ?_⟩
      · have hi' : i < r.length := by omega
        have hY : frOk (r.getD i default) := hall _ (List.mem_cons_of_mem _ (getD_mem hi'))
        have eL : loQ x (r.take (i + 1)) = if cmpQ (r.getD i default).1 (r.getD i default).2 (loQ x (r.take i)).1 (loQ x (r.take i)).2 < 0 then r.getD i default else loQ x (r.take i) := foldl_take_succ hi'
        have eH : hiQ x (r.take (i + 1)) = if 0 < cmpQ (r.getD i default).1 (r.getD i default).2 (hiQ x (r.take i)).1 (hiQ x (r.take i)).2 then r.getD i default else hiQ x (r.take i) := foldl_take_succ hi'
        have hw : IntKind.i64.wrap ((i : Int) + 1 + 1) = ((i + 1 : Nat) : Int) + 1 := by
          rw [List.length_cons] at hmax
          rw [IntWalk.i64_in _ (by omega)]; omega
        have bd : 0 ≤ (i : Int) + 1 ∧ (i : Int) + 1 < (r.length : Int) + 1 := by omega
        refine ⟨bd, r.getD i default, loQ x (r.take i), ⟨fracP_self hY, fracP_self hL⟩, by decide, by decide,
          fun h1 => ⟨bd, bd, r.getD i default, hiQ x (r.take i), ⟨fracP_self hY, fracP_self hH⟩, by decide, by decide, fun h2 => ⟨bd, i + 1, by omega, by omega, ?_⟩, fun h2 => ⟨i + 1, by omega, by omega, ?_⟩⟩,
          fun h1 => ⟨bd, r.getD i default, hiQ x (r.take i), ⟨fracP_self hY, fracP_self hH⟩, by decide, by decide, fun h2 => ⟨bd, i + 1, by omega, by omega, ?_⟩, fun h2 => ⟨i + 1, by omega, by omega, ?_⟩⟩⟩
        · simp only [eL, eH, if_pos h1, if_pos h2, hw, leS_mk, leL_cons, leL_nil, le_junk, le_int, le_bool, le_nil, leLL_nil, leLL_cons, leH_cons, leH_nil, leH1_box, leH1_own, leH1_gone, le_vs, le_agg, le_tup, le_ptr, le_own, le_xp, le_fn, le_opt, le_val, le_elem, le_nil_own, le_nil_vs, leH_ghost, leL_chunk, leXL_id, bnd_int, bnd_bool, bnd_val, bnd_nil, bnd_junk, bnd_vs, bnd_xp, bnd_agg, bnd_tup, bnd_ptr, bnd_own, bnd_elem, bnd_fn, bnd_iface, bnd_opt, bndL_nil, bndL_cons, lenH_cons, lenH_nil, imp_self, implies_true, true_and, and_true]
          simp
        · simp only [eL, eH, if_pos h1, if_neg h2, hw, leS_mk, leL_cons, leL_nil, le_junk, le_int, le_bool, le_nil, leLL_nil, leLL_cons, leH_cons, leH_nil, leH1_box, leH1_own, leH1_gone, le_vs, le_agg, le_tup, le_ptr, le_own, le_xp, le_fn, le_opt, le_val, le_elem, le_nil_own, le_nil_vs, leH_ghost, leL_chunk, leXL_id, bnd_int, bnd_bool, bnd_val, bnd_nil, bnd_junk, bnd_vs, bnd_xp, bnd_agg, bnd_tup, bnd_ptr, bnd_own, bnd_elem, bnd_fn, bnd_iface, bnd_opt, bndL_nil, bndL_cons, lenH_cons, lenH_nil, imp_self, implies_true, true_and, and_true]
          simp
        · simp only [eL, eH, if_neg h1, if_pos h2, hw, leS_mk, leL_cons, leL_nil, le_junk, le_int, le_bool, le_nil, leLL_nil, leLL_cons, leH_cons, leH_nil, leH1_box, leH1_own, leH1_gone, le_vs, le_agg, le_tup, le_ptr, le_own, le_xp, le_fn, le_opt, le_val, le_elem, le_nil_own, le_nil_vs, leH_ghost, leL_chunk, leXL_id, bnd_int, bnd_bool, bnd_val, bnd_nil, bnd_junk, bnd_vs, bnd_xp, bnd_agg, bnd_tup, bnd_ptr, bnd_own, bnd_elem, bnd_fn, bnd_iface, bnd_opt, bndL_nil, bndL_cons, lenH_cons, lenH_nil, imp_self, implies_true, true_and, and_true]
          simp
        · simp only [eL, eH, if_neg h1, if_neg h2, hw, leS_mk, leL_cons, leL_nil, le_junk, le_int, le_bool, le_nil, leLL_nil, leLL_cons, leH_cons, leH_nil, leH1_box, leH1_own, leH1_gone, le_vs, le_agg, le_tup, le_ptr, le_own, le_xp, le_fn, le_opt, le_val, le_elem, le_nil_own, le_nil_vs, leH_ghost, leL_chunk, leXL_id, bnd_int, bnd_bool, bnd_val, bnd_nil, bnd_junk, bnd_vs, bnd_xp, bnd_agg, bnd_tup, bnd_ptr, bnd_own, bnd_elem, bnd_fn, bnd_iface, bnd_opt, bndL_nil, bndL_cons, lenH_cons, lenH_nil, imp_self, implies_true, true_and, and_true]
          simp
      · obtain rfl : i = r.length := by omega
        rw [List.take_length] at hL hH
        rw [List.take_length]
        refine ⟨loQ x r, fracP_self hL, by decide, by decide, hiQ x r, fracP_self hH, by decide, by decide, ?_⟩
        have h : k (.tup [.agg (enc2 (spanQ x r).1), .int .i64 (spanQ x r).2]) [] := h
        unfold spanQ spanR at h
        refine ⟨fun hb => ?_, fun hb => ?_⟩
        · rw [if_neg (by rw [← Bool.not_and, Bool.not_eq_true'] at hb; rw [hb]; simp)] at h
          exact ans_iv (r := ((0, 0), 7)) h
        · rw [if_pos (by rw [← Bool.not_and, Bool.not_eq_false'] at hb; exact hb)] at h
          exact ans_iv h
  · exact h.1.elim

/-! ### Fractions with one denominator -/

theorem cmpQ_one {n m : Int} {d : Nat} (hd : 0 < d) : (cmpQ n d m d < 0 ↔ n < m) ∧ (0 < cmpQ n d m d ↔ m < n) := by
  have h1 := mul_lt_iff (x := n) (y := m) hd
  have h2 := mul_lt_iff (x := m) (y := n) hd
  unfold cmpQ cmpI
  rw [← h1, ← h2]
  generalize n * (d : Int) = N
  generalize m * (d : Int) = M
  clear h1 h2
  by_cases c1 : N < M
  · rw [if_pos c1]; omega
  · rw [if_neg c1]
    by_cases c2 : M < N
    · rw [if_pos c2]; omega
    · rw [if_neg c2]; omega
theorem loQ_one {d : Nat} (hd : 0 < d) (n : Int) (r : List Int) : loQ (n, d) (r.map fun m => (m, d)) = (lowI n r, d) := by
  induction r generalizing n with
  | nil => rfl
  | cons a r ih =>
    have e : loQ (n, d) ((a :: r).map fun m => (m, d)) = loQ (if cmpQ a d n d < 0 then (a, d) else (n, d)) (r.map fun m => (m, d)) := rfl
    have e2 : lowI n (a :: r) = lowI (if a < n then a else n) r := rfl
    rw [e, e2, ← ih]
    by_cases h : a < n
    · rw [if_pos ((cmpQ_one hd).1.2 h), if_pos h]
    · rw [if_neg (fun hh => h ((cmpQ_one hd).1.1 hh)), if_neg h]
theorem hiQ_one {d : Nat} (hd : 0 < d) (n : Int) (r : List Int) : hiQ (n, d) (r.map fun m => (m, d)) = (highI n r, d) := by
  induction r generalizing n with
  | nil => rfl
  | cons a r ih =>
    have e : hiQ (n, d) ((a :: r).map fun m => (m, d)) = hiQ (if 0 < cmpQ a d n d then (a, d) else (n, d)) (r.map fun m => (m, d)) := rfl
    have e2 : highI n (a :: r) = highI (if n < a then a else n) r := rfl
    rw [e, e2, ← ih]
    by_cases h : n < a
    · rw [if_pos ((cmpQ_one hd).2.2 h), if_pos h]
    · rw [if_neg (fun hh => h ((cmpQ_one hd).2.1 hh)), if_neg h]
theorem spanQ_one {d : Nat} (hd : 0 < d) (n : Int) (r : List Int) : spanQ (n, d) (r.map fun m => (m, d)) = spanI d n r := by
  rw [spanQ, loQ_one hd, hiQ_one hd]; rfl

end Go.Proofs.Ytdognchniaojoaa

/- Fractions with the other sign, differences; the corners of two intervals: walked. -/
set_option linter.all false
namespace Go.Proofs.Ytdognchniaojoaa
open Go Go.Vx
set_option maxRecDepth 100000
set_option maxHeartbeats 4000000

def v97 : VF := { ntmps := 17, res := [.cell 2 true 3], body :=
 (.seq (.region [⟨(some 1), none, .box, [.tm 0]⟩,
  ⟨(some 2), none, (.alloc [(.bool false), .nil, .nil]), []⟩])
 (.seq (.region [⟨(some 3), none, (.fieldAddr 0), [.tm 1]⟩,
  ⟨(some 4), none, (.load false 1), [.tm 3]⟩,
  ⟨(some 5), none, .not, [.tm 4]⟩,
  ⟨(some 6), none, .mov, [.tm 5]⟩,
  ⟨(some 7), (some (6, true)), (.fieldAddr 1), [.tm 1]⟩,
  ⟨(some 8), (some (6, true)), (.load false 1), [.tm 7]⟩,
  ⟨(some 9), (some (6, true)), .len, [.tm 8]⟩,
  ⟨(some 10), (some (6, true)), (.cmp .gtr), [.tm 9, .cn (.int .i64 0)]⟩,
  ⟨(some 11), none, .and, [.tm 6, .tm 10]⟩,
  ⟨(some 12), none, (.fieldAddr 1), [.tm 1]⟩,
  ⟨(some 13), none, (.load false 1), [.tm 12]⟩,
  ⟨(some 14), none, (.fieldAddr 2), [.tm 1]⟩,
  ⟨(some 15), none, (.load false 1), [.tm 14]⟩,
  ⟨(some 16), none, (.build [(.bool false), .nil, .nil] [(0, 1), (1, 1), (2, 1)]), [.tm 11, .tm 13, .tm 15]⟩,
  ⟨none, none, (.store 3), [.tm 2, .tm 16]⟩])
 .ret)) }
theorem v97_is : vfunc Try.prog Try.f97 = some v97 := by kernel_rfl
def v93 : VF := { ntmps := 21, res := [.cell 4 true 3, .tmp 5], body :=
 (.seq (.region [⟨(some 2), none, .box, [.tm 0]⟩,
  ⟨(some 3), none, .box, [.tm 1]⟩,
  ⟨(some 4), none, (.alloc [(.bool false), .nil, .nil]), []⟩,
  ⟨(some 5), none, .mov, [.cn (.int .i64 0)]⟩])
 (.seq (.region [⟨(some 7), none, (.load true 3), [.tm 2]⟩,
  ⟨(some 8), none, (.load true 3), [.tm 3]⟩,
  ⟨(some 9), none, (.buildSlice 3 2 [(.bool false), .nil, .nil] [(0, 3), (3, 3)]), [.tm 7, .tm 8]⟩,
  ⟨(some 10), none, (.call 69), [.tm 9]⟩,
  ⟨(some 6), none, .mov, [.tm 10]⟩])
 (.seq (.seq (.region [⟨(some 11), none, .mov, [.tm 6]⟩,
  ⟨(some 12), none, (.cmp .neq), [.tm 11, .cn (.int .i64 0)]⟩])
 (.cond (.tm 12) (.seq (.region [⟨(some 13), none, (.build [(.bool false), .nil, .nil] []), []⟩,
  ⟨(some 14), none, .mov, [.tm 6]⟩,
  ⟨none, none, (.store 3), [.tm 4, .tm 13]⟩,
  ⟨(some 5), none, .mov, [.tm 14]⟩])
 .ret)
  .skip))
 (.seq (.draw [] [⟨⟨(some 15), none, (.load true 3), [.tm 2]⟩, []⟩,
  ⟨⟨(some 16), none, (.load true 3), [.tm 3]⟩, []⟩,
  ⟨⟨(some 17), none, (.call 97), [.tm 16]⟩, []⟩,
  ⟨⟨(some 18), none, (.call 92), [.tm 15, .tm 17]⟩, []⟩,
  ⟨⟨(some 19), none, (.ext 0), [.tm 18]⟩, []⟩,
  ⟨⟨(some 20), none, (.ext 1), [.tm 18]⟩, []⟩,
  ⟨⟨none, none, (.store 3), [.tm 4, .tm 19]⟩, []⟩,
  ⟨⟨(some 5), none, .mov, [.tm 20]⟩, []⟩])
 .ret)))) }
theorem v93_is : vfunc Try.prog Try.f93 = some v93 := by kernel_rfl
def v84 : VF := { ntmps := 100, res := [.tmp 6], body :=
 (.seq (.region [⟨(some 3), none, .box, [.tm 0]⟩,
  ⟨(some 4), none, .box, [.tm 1]⟩,
  ⟨(some 6), none, .mov, [.cn .nil]⟩])
 (.seq (.region [⟨(some 7), none, .mov, [.cn .nil]⟩])
 (.seq (.region [⟨(some 13), none, (.fieldAddr 0), [.tm 3]⟩,
  ⟨(some 14), none, (.load false 1), [.tm 13]⟩,
  ⟨(some 15), none, (.fieldAddr 1), [.tm 3]⟩,
  ⟨(some 16), none, (.load false 1), [.tm 15]⟩,
  ⟨(some 17), none, (.buildSlice 1 2 [(.int .i64 0)] [(0, 1), (1, 1)]), [.tm 14, .tm 16]⟩,
  ⟨(some 8), none, .mov, [.tm 17]⟩])
 (.seq (.region [⟨(some 18), none, (.fieldAddr 0), [.tm 4]⟩,
  ⟨(some 19), none, (.load false 1), [.tm 18]⟩,
  ⟨(some 20), none, (.fieldAddr 1), [.tm 4]⟩,
  ⟨(some 21), none, (.load false 1), [.tm 20]⟩,
  ⟨(some 22), none, (.buildSlice 1 2 [(.int .i64 0)] [(0, 1), (1, 1)]), [.tm 19, .tm 21]⟩,
  ⟨(some 9), none, .mov, [.tm 22]⟩])
 (.seq (.seq (.region [⟨(some 10), none, .mov, [.cn (.int .i64 0)]⟩])
 (.block 0 (.loop (.seq (.seq (.region [⟨(some 23), none, .mov, [.tm 10]⟩,
  ⟨(some 24), none, (.cmp .lss), [.tm 23, .cn (.int .i64 2)]⟩])
 (.cond (.tm 24) .skip
  (.exit 0)))
 (.seq (.block 1 (.seq (.region [⟨(some 11), none, .mov, [.cn (.int .i64 0)]⟩])
 (.block 2 (.loop (.seq (.seq (.region [⟨(some 27), none, .mov, [.tm 11]⟩,
  ⟨(some 28), none, (.cmp .lss), [.tm 27, .cn (.int .i64 2)]⟩])
 (.cond (.tm 28) .skip
  (.exit 2)))
 (.seq (.block 3 (.seq (.region [⟨(some 31), none, (.build [(.bool false), .nil, .nil] []), []⟩,
  ⟨(some 12), none, (.alloc [(.bool false), .nil, .nil]), []⟩,
  ⟨none, none, (.store 3), [.tm 12, .tm 31]⟩])
 (.seq (.seq (.region [⟨(some 32), none, .mov, [.tm 2]⟩])
 (.block 4 (.seq (.region [⟨(some 48), none, (.cmp .eql), [.tm 32, .cn (.int .i64 0)]⟩,
  ⟨(some 47), none, .mov, [.tm 48]⟩])
 (.cond (.tm 47) (.draw [] [⟨⟨(some 50), none, .mov, [.tm 8]⟩, []⟩,
  ⟨⟨(some 51), none, .mov, [.tm 10]⟩, []⟩,
  ⟨⟨(some 52), none, (.idxAddr 1), [.tm 50, .tm 51]⟩, []⟩,
  ⟨⟨(some 53), none, (.load false 1), [.tm 52]⟩, []⟩,
  ⟨⟨(some 55), none, .mov, [.tm 9]⟩, []⟩,
  ⟨⟨(some 56), none, .mov, [.tm 11]⟩, []⟩,
  ⟨⟨(some 57), none, (.idxAddr 1), [.tm 55, .tm 56]⟩, []⟩,
  ⟨⟨(some 58), none, (.load false 1), [.tm 57]⟩, []⟩,
  ⟨⟨(some 54), none, (.call 48), [.tm 53]⟩, []⟩,
  ⟨⟨(some 59), none, (.call 48), [.tm 58]⟩, []⟩,
  ⟨⟨(some 60), none, (.call 92), [.tm 54, .tm 59]⟩, []⟩,
  ⟨⟨(some 49), none, .mov, [.tm 60]⟩, []⟩,
  ⟨⟨(some 61), none, (.ext 0), [.tm 49]⟩, []⟩,
  ⟨⟨(some 62), none, (.ext 1), [.tm 49]⟩, []⟩,
  ⟨⟨none, none, (.store 3), [.tm 12, .tm 61]⟩, []⟩])
  (.seq (.region [⟨(some 64), none, (.cmp .eql), [.tm 32, .cn (.int .i64 1)]⟩,
  ⟨(some 63), none, .mov, [.tm 64]⟩])
 (.cond (.tm 63) (.draw [] [⟨⟨(some 66), none, .mov, [.tm 8]⟩, []⟩,
  ⟨⟨(some 67), none, .mov, [.tm 10]⟩, []⟩,
  ⟨⟨(some 68), none, (.idxAddr 1), [.tm 66, .tm 67]⟩, []⟩,
  ⟨⟨(some 69), none, (.load false 1), [.tm 68]⟩, []⟩,
  ⟨⟨(some 71), none, .mov, [.tm 9]⟩, []⟩,
  ⟨⟨(some 72), none, .mov, [.tm 11]⟩, []⟩,
  ⟨⟨(some 73), none, (.idxAddr 1), [.tm 71, .tm 72]⟩, []⟩,
  ⟨⟨(some 74), none, (.load false 1), [.tm 73]⟩, []⟩,
  ⟨⟨(some 70), none, (.call 48), [.tm 69]⟩, []⟩,
  ⟨⟨(some 75), none, (.call 48), [.tm 74]⟩, []⟩,
  ⟨⟨(some 76), none, (.call 93), [.tm 70, .tm 75]⟩, []⟩,
  ⟨⟨(some 65), none, .mov, [.tm 76]⟩, []⟩,
  ⟨⟨(some 77), none, (.ext 0), [.tm 65]⟩, []⟩,
  ⟨⟨(some 78), none, (.ext 1), [.tm 65]⟩, []⟩,
  ⟨⟨none, none, (.store 3), [.tm 12, .tm 77]⟩, []⟩])
  (.seq (.region [⟨(some 80), none, (.cmp .eql), [.tm 32, .cn (.int .i64 2)]⟩,
  ⟨(some 79), none, .mov, [.tm 80]⟩])
 (.cond (.tm 79) (.draw [] [⟨⟨(some 82), none, .mov, [.tm 8]⟩, []⟩,
  ⟨⟨(some 83), none, .mov, [.tm 10]⟩, []⟩,
  ⟨⟨(some 84), none, (.idxAddr 1), [.tm 82, .tm 83]⟩, []⟩,
  ⟨⟨(some 85), none, (.load false 1), [.tm 84]⟩, []⟩,
  ⟨⟨(some 87), none, .mov, [.tm 9]⟩, []⟩,
  ⟨⟨(some 88), none, .mov, [.tm 11]⟩, []⟩,
  ⟨⟨(some 89), none, (.idxAddr 1), [.tm 87, .tm 88]⟩, []⟩,
  ⟨⟨(some 90), none, (.load false 1), [.tm 89]⟩, []⟩,
  ⟨⟨(some 86), none, (.call 48), [.tm 85]⟩, []⟩,
  ⟨⟨(some 91), none, (.call 48), [.tm 90]⟩, []⟩,
  ⟨⟨(some 92), none, (.call 47), [.tm 86, .tm 91]⟩, []⟩,
  ⟨⟨(some 81), none, .mov, [.tm 92]⟩, []⟩,
  ⟨⟨(some 93), none, (.ext 0), [.tm 81]⟩, []⟩,
  ⟨⟨(some 94), none, (.ext 1), [.tm 81]⟩, []⟩,
  ⟨⟨none, none, (.store 3), [.tm 12, .tm 93]⟩, []⟩])
  (.draw [] [⟨⟨(some 34), none, .mov, [.tm 8]⟩, []⟩,
  ⟨⟨(some 35), none, .mov, [.tm 10]⟩, []⟩,
  ⟨⟨(some 36), none, (.idxAddr 1), [.tm 34, .tm 35]⟩, []⟩,
  ⟨⟨(some 37), none, (.load false 1), [.tm 36]⟩, []⟩,
  ⟨⟨(some 39), none, .mov, [.tm 9]⟩, []⟩,
  ⟨⟨(some 40), none, .mov, [.tm 11]⟩, []⟩,
  ⟨⟨(some 41), none, (.idxAddr 1), [.tm 39, .tm 40]⟩, []⟩,
  ⟨⟨(some 42), none, (.load false 1), [.tm 41]⟩, []⟩,
  ⟨⟨(some 38), none, (.call 48), [.tm 37]⟩, []⟩,
  ⟨⟨(some 43), none, (.call 48), [.tm 42]⟩, []⟩,
  ⟨⟨(some 44), none, (.call 68), [.tm 38, .tm 43]⟩, []⟩,
  ⟨⟨(some 33), none, .mov, [.tm 44]⟩, []⟩,
  ⟨⟨(some 45), none, (.ext 0), [.tm 33]⟩, []⟩,
  ⟨⟨(some 46), none, (.ext 1), [.tm 33]⟩, []⟩,
  ⟨⟨none, none, (.store 3), [.tm 12, .tm 45]⟩, []⟩])))))))))
 (.region [⟨(some 95), none, .mov, [.tm 7]⟩,
  ⟨(some 96), none, (.load true 3), [.tm 12]⟩,
  ⟨(some 97), none, (.buildSlice 3 1 [(.bool false), .nil, .nil] [(0, 3)]), [.tm 96]⟩,
  ⟨(some 98), none, (.append 3 56 [(.bool false), .nil, .nil]), [.tm 95, .tm 97]⟩,
  ⟨(some 7), none, .mov, [.tm 98]⟩]))))
 (.region [⟨(some 29), none, .mov, [.tm 11]⟩,
  ⟨(some 30), none, (.ari .add), [.tm 29, .cn (.int .i64 1)]⟩,
  ⟨(some 11), none, .mov, [.tm 30]⟩])))))))
 (.region [⟨(some 25), none, .mov, [.tm 10]⟩,
  ⟨(some 26), none, (.ari .add), [.tm 25, .cn (.int .i64 1)]⟩,
  ⟨(some 10), none, .mov, [.tm 26]⟩]))))))
 (.seq (.region [⟨(some 99), none, .mov, [.tm 7]⟩,
  ⟨(some 6), none, .mov, [.tm 99]⟩])
 .ret)))))) }
theorem v84_is : vfunc Try.prog Try.f84 = some v84 := by kernel_rfl


def turnedC : Ctr := { alias := true, of := fun l => match l with
  | [.agg [.bool neg, .vs _ z1 n1 s1 g1, .vs _ z2 n2 s2 g2]] => .ex Fr fun p => .pre (fracP p neg z1 n1 s1 g1 z2 n2 s2 g2) (.fin (.agg (encF false (turnF p))) [])
  | _ => noC }
def U0 : Env := { ct := fun _ => none, fn := fun _ => none, meth := fun _ _ => none }
theorem U0_ok : EnvOk Try.prog U0 := by
  refine ⟨fun f c h => ?_, fun f vf h => ?_, fun _ _ => rfl, by kernel_rfl⟩
  · cases h
  · cases h


theorem turned_ok : turnedC.ok Try.prog 97 := by
  refine contract Try.func97 v97_is U0_ok 300 turnedC fun args k h => ?_
  simp only [turnedC] at h
  split at h
  · rename_i neg t1 z1 n1 s1 g1 t2 z2 n2 s2 g2
    obtain ⟨p, hpp, h⟩ := h
    refine ⟨[.agg (encF false p)], ⟨fr_le hpp, trivial⟩, ?_⟩
    have hp := hpp.1
    clear hpp
    dsimp only [v97, natV, encF, go_sem, Option.bind, Option.map, List.append_nil, Nat.beq, List.cons_append, List.nil_append, List.append_eq, List.map_cons, List.map_nil, ite_self, reduceIte]
    simp only [true_and, and_true, imp_self, implies_true, decide_eq_true_eq, decide_eq_false_iff_not, Nat.reduceAdd, Nat.reduceLeDiff, Bool.not_not, reduceCtorEq, false_imp_iff, Bool.not_eq_true', Bool.not_eq_false', Bool.false_eq_true, and_self, forall_const, ne_eq, not_false_eq_true, Nat.reduceEqDiff, decide_true, decide_false, Bool.and_true, Bool.true_and, Bool.and_false, Bool.false_and, Bool.not_true, Bool.not_false, Bool.or_false, Bool.false_or, Bool.or_true, Bool.true_or, Bool.and_self, Bool.or_self, Bool.false_eq_true, Bool.true_eq_false, false_imp_iff, forall_const, true_and, and_true, implies_true, reduceCtorEq, not_true_eq_false, not_false_eq_true, ite_true, ite_false]
    obtain ⟨e1, e2, e3⟩ := turn_eq hp.1
    have h : k (.agg (encF false (turnF p))) [] := h
    unfold encF natV at h
    rw [e1, e2, ← e3] at h
    exact ans_le h (le_self _ ⟨trivial, trivial, trivial, trivial⟩) (fun h => by cases h)
  · exact h.1.elim

def U1 : Env := { ct := fun n => match n with | 69 => some badqC | 97 => some turnedC | 92 => some qaddC | _ => none, fn := fun _ => none, meth := fun _ _ => none }
theorem U1_ct69 : U1.ct 69 = some badqC := rfl
theorem U1_ct97 : U1.ct 97 = some turnedC := rfl
theorem U1_ct92 : U1.ct 92 = some qaddC := rfl
theorem U1_ok : EnvOk Try.prog U1 := by
  refine ⟨fun f c h => ?_, fun f vf h => ?_, fun _ _ => rfl, by kernel_rfl⟩
  · simp only [U1] at h
    split at h
    · cases h; exact ⟨badq_ok, Try.f69, Try.func69, by kernel_rfl, by kernel_rfl⟩
    · cases h; exact ⟨turned_ok, Try.f97, Try.func97, by kernel_rfl, by kernel_rfl⟩
    · cases h; exact ⟨qadd_ok, Try.f92, Try.func92, by kernel_rfl, by kernel_rfl⟩
    · cases h
  · cases h


theorem qsub_ok : qsubC.ok Try.prog 93 := by
  refine contract Try.func93 v93_is U1_ok 300 qsubC fun args k h => ?_
  simp only [qsubC] at h
  split at h
  · rename_i neg t1 z1 n1 s1 g1 t2 z2 n2 s2 g2 neg' t1' z1' n1' s1' g1' t2' z2' n2' s2' g2'
    obtain ⟨p, q, ⟨hpp, hqq, hpq⟩, h⟩ := h
    refine ⟨[.agg (encF false p), .agg (encF false q)], ⟨fr_le hpp, fr_le hqq, trivial⟩, ?_⟩
    have hp := hpp.1
    have hq := hqq.1
    clear hpp hqq
    dsimp only [v93, U1_ct69, U1_ct97, U1_ct92, badqC, turnedC, qaddC, natV, encF, go_sem, Option.bind, Option.map, List.append_nil, Nat.beq, List.cons_append, List.nil_append, List.append_eq, List.map_cons, List.map_nil, ite_self, reduceIte]
    simp only [true_and, and_true, imp_self, implies_true, decide_eq_true_eq, decide_eq_false_iff_not, Nat.reduceAdd, Nat.reduceLeDiff, Bool.not_not, reduceCtorEq, false_imp_iff, Bool.not_eq_true', Bool.not_eq_false', Bool.false_eq_true, and_self, forall_const, ne_eq, not_false_eq_true, Nat.reduceEqDiff, decide_true, decide_false, Bool.and_true, Bool.true_and, Bool.and_false, Bool.false_and, Bool.not_true, Bool.not_false, Bool.or_false, Bool.false_or, Bool.or_true, Bool.true_or, Bool.and_self, Bool.or_self, Bool.false_eq_true, Bool.true_eq_false, false_imp_iff, forall_const, true_and, and_true, implies_true, reduceCtorEq, not_true_eq_false, not_false_eq_true, ite_true, ite_false]
    have ht := turn_ok hq
    refine ⟨by decide, [p, q], ⟨⟨rfl, rfl, fun k hk => match k, hk with | 0, _ => leXL_self _ | 1, _ => leXL_self _⟩, by simp, list2 hp hq⟩, q, fracP_self hq, p, turnF q, ⟨fracP_self hp, fracP_self ht, hpq⟩, by decide, by decide, ?_⟩
    exact ans_fr (show k (.tup [.agg (encF true (addQ p (turnF q))), .int .i64 0]) [] from h)
  · exact h.1.elim

/-! ### Corners -/

/-- What is made of two whole numbers: 0 sum, 1 difference, 2 product, 3 quotient. -/
def opQ (w : Int) (m n : Int) : Fr := if w = 0 then addQ (m, 1) (n, 1) else if w = 1 then addQ (m, 1) (turnF (n, 1)) else if w = 2 then (m * n, 1 * 1) else divF (m, 1) (n, 1)
theorem opQ_ok {w m n : Int} (hm : -4611686018427387904 ≤ m ∧ m ≤ 4611686018427387904) (hn : -4611686018427387904 ≤ n ∧ n ≤ 4611686018427387904) (h0 : w ≠ 0 → w ≠ 1 → w ≠ 2 → n ≠ 0) : frOk (opQ w m n) := by
  unfold opQ
  split
  · exact frOk_8 (show 0 < 1 * 1 by decide) (show (m * ((1 : Nat) : Int) + n * ((1 : Nat) : Int)).natAbs < 4294967296 ^ 8 by omega) (show 1 * 1 < 4294967296 ^ 8 by decide)
  · split
    · exact frOk_8 (show 0 < 1 * 1 by decide) (show (m * ((1 : Nat) : Int) + -n * ((1 : Nat) : Int)).natAbs < 4294967296 ^ 8 by omega) (show 1 * 1 < 4294967296 ^ 8 by decide)
    · split
      · refine frOk_8 (show 0 < 1 * 1 by decide) (show (m * n).natAbs < 4294967296 ^ 8 from ?_) (show 1 * 1 < 4294967296 ^ 8 by decide)
        rw [Int.natAbs_mul]
        exact Nat.lt_of_le_of_lt (Nat.mul_le_mul (show m.natAbs ≤ 4611686018427387904 by omega) (show n.natAbs ≤ 4611686018427387904 by omega)) (by decide)
      · have hn0 := h0 (by assumption) (by assumption) (by assumption)
        refine frOk_8 (show 0 < 1 * n.natAbs by omega) (show (nsg (decide (n < 0)) 1 * m * ((1 : Nat) : Int)).natAbs < 4294967296 ^ 8 from ?_) (show 1 * n.natAbs < 4294967296 ^ 8 by omega)
        rw [Int.natAbs_mul, Int.natAbs_mul, nsg_abs, show Int.natAbs ((1 : Nat) : Int) = 1 from rfl, Nat.one_mul, Nat.mul_one]; omega
def crnF (x y u v w : Int) (j : Nat) : Fr := opQ w (if j / 2 = 0 then x else y) (if j % 2 = 0 then u else v)
def crnL (x y u v w : Int) : List Fr := [crnF x y u v w 0, crnF x y u v w 1, crnF x y u v w 2, crnF x y u v w 3]
def bg6 (n : Int) : Prop := -4611686018427387904 ≤ n ∧ n ≤ 4611686018427387904
def crnC : Ctr := { alias := false, of := fun l => match l with
  | [.agg [.int .i64 x, .int .i64 y], .agg [.int .i64 u, .int .i64 v], .int .i64 w] => .pre ((bg6 x ∧ bg6 y) ∧ (bg6 u ∧ bg6 v) ∧ (w ≠ 0 → w ≠ 1 → w ≠ 2 → u ≠ 0 ∧ v ≠ 0)) (.fin (.vs true false 4 3 (fun k => encF true (crnF x y u v w k))) [])
  | _ => noC }
def U2 : Env := { ct := fun n => match n with | 48 => some quoiC | 92 => some qaddC | 93 => some qsubC | 47 => some qmulC | 68 => some qdivC | _ => none, fn := fun _ => none, meth := fun _ _ => none }
theorem U2_ct48 : U2.ct 48 = some quoiC := rfl
theorem U2_ct92 : U2.ct 92 = some qaddC := rfl
theorem U2_ct93 : U2.ct 93 = some qsubC := rfl
theorem U2_ct47 : U2.ct 47 = some qmulC := rfl
theorem U2_ct68 : U2.ct 68 = some qdivC := rfl
theorem U2_ok : EnvOk Try.prog U2 := by
  refine ⟨fun f c h => ?_, fun f vf h => ?_, fun _ _ => rfl, by kernel_rfl⟩
  · simp only [U2] at h
    split at h
    · cases h; exact ⟨quoi_ok, Try.f48, Try.func48, by kernel_rfl, by kernel_rfl⟩
    · cases h; exact ⟨qadd_ok, Try.f92, Try.func92, by kernel_rfl, by kernel_rfl⟩
    · cases h; exact ⟨qsub_ok, Try.f93, Try.func93, by kernel_rfl, by kernel_rfl⟩
    · cases h; exact ⟨qmul_ok, Try.f47, Try.func47, by kernel_rfl, by kernel_rfl⟩
    · cases h; exact ⟨qdiv_ok, Try.f68, Try.func68, by kernel_rfl, by kernel_rfl⟩
    · cases h
  · cases h


theorem crn_ok : crnC.ok Try.prog 84 := by
  refine contract Try.func84 v84_is U2_ok 400 crnC fun args k h => ⟨args, ?_⟩
  simp only [crnC] at h
  split at h
  · rename_i x y u v w
    obtain ⟨⟨⟨hx, hy⟩, ⟨hu, hv⟩, hw⟩, h⟩ := h
    refine ⟨by simp [leL, le], ?_⟩
    dsimp only [v84, go_sem, Option.bind, Option.map, List.append_nil, Nat.beq, List.cons_append, List.nil_append, List.append_eq, List.map_cons, List.map_nil, ite_self, reduceIte]
    simp only [true_and, and_true, imp_self, implies_true, decide_eq_true_eq, decide_eq_false_iff_not, Nat.reduceAdd, Nat.reduceLeDiff, Bool.not_not, reduceCtorEq, false_imp_iff, Bool.not_eq_true', Bool.not_eq_false', Bool.false_eq_true, and_self, forall_const, ne_eq, not_false_eq_true, Nat.reduceEqDiff, decide_true, decide_false, Bool.and_true, Bool.true_and, Bool.and_false, Bool.false_and, Bool.not_true, Bool.not_false, Bool.or_false, Bool.false_or, Bool.or_true, Bool.true_or, Bool.and_self, Bool.or_self, Bool.false_eq_true, Bool.true_eq_false, false_imp_iff, forall_const, true_and, and_true, implies_true, reduceCtorEq, not_true_eq_false, not_false_eq_true, ite_true, ite_false]
    refine ⟨by decide, by decide, ?_⟩
    refine Loop.keep [2, 4, 0, 0, 0] Nat (fun i => [(7, .own 4 0 (2 * i) 3), (10, .int .i64 i)]) (fun i => [(2, .own false 1 2 (fun k => [.int .i64 (if k = 0 then x else y)])), (3, .own false 1 2 (fun k => [.int .i64 (if k = 0 then u else v)])), (4, .own (decide (i = 0)) 3 (2 * i) (fun k => encF true (crnF x y u v w k)))]) [.gone] (fun i => i ≤ 2) (fun i => 2 - i) ?_ ?_
    · refine ⟨0, Nat.zero_le _, ?_⟩
      dsimp only [go_sem, Option.bind, Option.map, List.append_nil, Nat.beq, List.cons_append, List.nil_append, List.append_eq, List.map_cons, List.map_nil, ite_self, reduceIte]
      simp only [leS_mk, leL_cons, leL_nil, le_junk, le_int, le_bool, le_nil, leLL_nil, leLL_cons, leH_cons, leH_nil, leH1_box, leH1_own, leH1_gone, le_vs, le_agg, le_tup, le_ptr, le_own, le_xp, le_fn, le_opt, le_val, le_elem, le_nil_own, le_nil_vs, leH_ghost, leL_chunk, leXL_id, bnd_int, bnd_bool, bnd_val, bnd_nil, bnd_junk, bnd_vs, bnd_xp, bnd_agg, bnd_tup, bnd_ptr, bnd_own, bnd_elem, bnd_fn, bnd_iface, bnd_opt, bndL_nil, bndL_cons, lenH_cons, lenH_nil, imp_self, implies_true, true_and, and_true]
      exact ⟨⟨by omega, by omega, by omega, rfl⟩, fun k hk => match k, hk with | 0, _ => leL_self [.int .i64 x] ⟨trivial, trivial⟩ | 1, _ => leL_self [.int .i64 y] ⟨trivial, trivial⟩, fun k hk => match k, hk with | 0, _ => leL_self [.int .i64 u] ⟨trivial, trivial⟩ | 1, _ => leL_self [.int .i64 v] ⟨trivial, trivial⟩, rfl⟩
    · rintro i hi
      dsimp only [go_sem, Option.bind, Option.map, List.append_nil, Nat.beq, List.cons_append, List.nil_append, List.append_eq, List.map_cons, List.map_nil, ite_self, reduceIte]
      simp only [true_and, and_true, imp_self, implies_true, decide_eq_true_eq, decide_eq_false_iff_not, Nat.reduceAdd, Nat.reduceLeDiff, Bool.not_not, reduceCtorEq, false_imp_iff, Bool.not_eq_true', Bool.not_eq_false', Bool.false_eq_true, and_self, forall_const, ne_eq, not_false_eq_true, Nat.reduceEqDiff]
      refine ⟨fun hlt => ?_, fun hge => ?_⟩
      · refine Loop.keep [2, 4, 0, 0, 0, 0] Nat (fun j => [(7, .own 4 0 (2 * i + j) 3), (11, .int .i64 j)]) (fun j => [(4, .own (decide (2 * i + j = 0)) 3 (2 * i + j) (fun k => encF true (crnF x y u v w k)))]) [] (fun j => j ≤ 2) (fun j => 2 - j) ?_ ?_
        · refine ⟨0, Nat.zero_le _, ?_⟩
          dsimp only [go_sem, Option.bind, Option.map, List.append_nil, Nat.beq, List.cons_append, List.nil_append, List.append_eq, List.map_cons, List.map_nil, ite_self, reduceIte]
          simp only [leS_mk, leL_cons, leL_nil, le_junk, le_int, le_bool, le_nil, leLL_nil, leLL_cons, leH_cons, leH_nil, leH1_box, leH1_own, leH1_gone, le_vs, le_agg, le_tup, le_ptr, le_own, le_xp, le_fn, le_opt, le_val, le_elem, le_nil_own, le_nil_vs, leH_ghost, leL_chunk, leXL_id, bnd_int, bnd_bool, bnd_val, bnd_nil, bnd_junk, bnd_vs, bnd_xp, bnd_agg, bnd_tup, bnd_ptr, bnd_own, bnd_elem, bnd_fn, bnd_iface, bnd_opt, bndL_nil, bndL_cons, lenH_cons, lenH_nil, imp_self, implies_true, true_and, and_true]
          exact ⟨⟨⟨by omega, by omega⟩, by omega, by omega, rfl⟩, by congr 1; exact propext (by omega), by omega, fun k hk => leL_self (encF true (crnF x y u v w k)) ⟨trivial, trivial, trivial, trivial⟩⟩
        · rintro j hj
          dsimp only [U2_ct48, U2_ct92, U2_ct93, U2_ct47, U2_ct68, quoiC, qaddC, qsubC, qmulC, qdivC, natV, encF, Int.toNat_natCast, go_sem, Option.bind, Option.map, List.append_nil, Nat.beq, List.cons_append, List.nil_append, List.append_eq, List.map_cons, List.map_nil, ite_self, reduceIte]
          simp only [true_and, and_true, imp_self, implies_true, decide_eq_true_eq, decide_eq_false_iff_not, Nat.reduceAdd, Nat.reduceLeDiff, Bool.not_not, reduceCtorEq, false_imp_iff, Bool.not_eq_true', Bool.not_eq_false', Bool.false_eq_true, and_self, forall_const, ne_eq, not_false_eq_true, Nat.reduceEqDiff]
          refine ⟨fun hlj => ?_, fun hgj => ?_⟩
          · have hcr : crnF x y u v w (2 * i + j) = opQ w (if i = 0 then x else y) (if j = 0 then u else v) := by
              unfold crnF
              rw [show (2 * i + j) / 2 = i by omega, show (2 * i + j) % 2 = j by omega]
            have hm : bg6 (if i = 0 then x else y) := by split <;> assumption
            have hn : bg6 (if j = 0 then u else v) := by split <;> assumption
            have hwn : w ≠ 0 → w ≠ 1 → w ≠ 2 → (if j = 0 then u else v) ≠ 0 := fun a b c => by
              have := hw a b c
              split
              · exact this.1
              · exact this.2
            have hok := opQ_ok hm hn hwn
            generalize (if i = 0 then x else y) = m at *
            generalize (if j = 0 then u else v) = n at *
            have hm1 := frOk_1 hm
            have hn1 := frOk_1 hn
            refine ⟨fun h0 => ?_, fun h0 => ⟨fun h1 => ?_, fun h1 => ⟨fun h2 => ?_, fun h2 => ?_⟩⟩⟩
            · have eo : opQ w m n = addQ (m, 1) (n, 1) := if_pos h0
              rw [eo] at hok hcr
              refine ⟨⟨by omega, by omega⟩, by omega, ⟨by omega, by omega⟩, by omega, hm, hn, (m, 1), (n, 1), ⟨fracP_self hm1, fracP_self hn1, hok⟩, by decide, by decide, by decide, ?_⟩
              refine ⟨⟨by unfold capOk; omega, fun q hq => match q, hq with | 0, _ => ⟨rfl, trivial, trivial, trivial, trivial⟩⟩, j + 1, by omega, by omega, ?_⟩
              have hwj : IntKind.i64.wrap ((j : Int) + 1) = ((j + 1 : Nat) : Int) := by rw [IntWalk.i64_in _ (by omega)]; omega
              simp only [hwj, ← Nat.add_assoc, leS_mk, leL_cons, leL_nil, le_junk, le_int, le_bool, le_nil, leLL_nil, leLL_cons, leH_cons, leH_nil, leH1_box, leH1_own, leH1_gone, le_vs, le_agg, le_tup, le_ptr, le_own, le_xp, le_fn, le_opt, le_val, le_elem, le_nil_own, le_nil_vs, leH_ghost, leL_chunk, leXL_id, bnd_int, bnd_bool, bnd_val, bnd_nil, bnd_junk, bnd_vs, bnd_xp, bnd_agg, bnd_tup, bnd_ptr, bnd_own, bnd_elem, bnd_fn, bnd_iface, bnd_opt, bndL_nil, bndL_cons, lenH_cons, lenH_nil, imp_self, implies_true, true_and, and_true]
              refine ⟨by omega, by simp, fun q hq => ?_⟩
              rcases Nat.lt_or_ge q (2 * i + j) with h' | h'
              · rw [if_pos h']; exact leL_self (encF true (crnF x y u v w q)) ⟨trivial, trivial, trivial, trivial⟩
              · rw [if_neg (by omega)]
                obtain rfl : q = 2 * i + j := by omega
                rw [Nat.sub_self, hcr]
                first | exact leL_self (encF true _) ⟨trivial, trivial, trivial, trivial⟩ | exact leL_self (encF true (m * n, 1 * 1)) ⟨trivial, trivial, trivial, trivial⟩
            · have eo : opQ w m n = addQ (m, 1) (turnF (n, 1)) := (if_neg h0).trans (if_pos h1)
              rw [eo] at hok hcr
              refine ⟨⟨by omega, by omega⟩, by omega, ⟨by omega, by omega⟩, by omega, hm, hn, (m, 1), (n, 1), ⟨fracP_self hm1, fracP_self hn1, hok⟩, by decide, by decide, by decide, ?_⟩
              refine ⟨⟨by unfold capOk; omega, fun q hq => match q, hq with | 0, _ => ⟨rfl, trivial, trivial, trivial, trivial⟩⟩, j + 1, by omega, by omega, ?_⟩
              have hwj : IntKind.i64.wrap ((j : Int) + 1) = ((j + 1 : Nat) : Int) := by rw [IntWalk.i64_in _ (by omega)]; omega
              simp only [hwj, ← Nat.add_assoc, leS_mk, leL_cons, leL_nil, le_junk, le_int, le_bool, le_nil, leLL_nil, leLL_cons, leH_cons, leH_nil, leH1_box, leH1_own, leH1_gone, le_vs, le_agg, le_tup, le_ptr, le_own, le_xp, le_fn, le_opt, le_val, le_elem, le_nil_own, le_nil_vs, leH_ghost, leL_chunk, leXL_id, bnd_int, bnd_bool, bnd_val, bnd_nil, bnd_junk, bnd_vs, bnd_xp, bnd_agg, bnd_tup, bnd_ptr, bnd_own, bnd_elem, bnd_fn, bnd_iface, bnd_opt, bndL_nil, bndL_cons, lenH_cons, lenH_nil, imp_self, implies_true, true_and, and_true]
              refine ⟨by omega, by simp, fun q hq => ?_⟩
              rcases Nat.lt_or_ge q (2 * i + j) with h' | h'
              · rw [if_pos h']; exact leL_self (encF true (crnF x y u v w q)) ⟨trivial, trivial, trivial, trivial⟩
              · rw [if_neg (by omega)]
                obtain rfl : q = 2 * i + j := by omega
                rw [Nat.sub_self, hcr]
                first | exact leL_self (encF true _) ⟨trivial, trivial, trivial, trivial⟩ | exact leL_self (encF true (m * n, 1 * 1)) ⟨trivial, trivial, trivial, trivial⟩
            · have eo : opQ w m n = (m * n, 1 * 1) := (if_neg h0).trans ((if_neg h1).trans (if_pos h2))
              rw [eo] at hok hcr
              refine ⟨⟨by omega, by omega⟩, by omega, ⟨by omega, by omega⟩, by omega, hm, hn, (m, 1), (n, 1), ⟨fracP_self hm1, fracP_self hn1, hok⟩, by decide, by decide, by decide, ?_⟩
              refine ⟨⟨by unfold capOk; omega, fun q hq => match q, hq with | 0, _ => ⟨rfl, trivial, trivial, trivial, trivial⟩⟩, j + 1, by omega, by omega, ?_⟩
              have hwj : IntKind.i64.wrap ((j : Int) + 1) = ((j + 1 : Nat) : Int) := by rw [IntWalk.i64_in _ (by omega)]; omega
              simp only [hwj, ← Nat.add_assoc, leS_mk, leL_cons, leL_nil, le_junk, le_int, le_bool, le_nil, leLL_nil, leLL_cons, leH_cons, leH_nil, leH1_box, leH1_own, leH1_gone, le_vs, le_agg, le_tup, le_ptr, le_own, le_xp, le_fn, le_opt, le_val, le_elem, le_nil_own, le_nil_vs, leH_ghost, leL_chunk, leXL_id, bnd_int, bnd_bool, bnd_val, bnd_nil, bnd_junk, bnd_vs, bnd_xp, bnd_agg, bnd_tup, bnd_ptr, bnd_own, bnd_elem, bnd_fn, bnd_iface, bnd_opt, bndL_nil, bndL_cons, lenH_cons, lenH_nil, imp_self, implies_true, true_and, and_true]
              refine ⟨by omega, by simp, fun q hq => ?_⟩
              rcases Nat.lt_or_ge q (2 * i + j) with h' | h'
              · rw [if_pos h']; exact leL_self (encF true (crnF x y u v w q)) ⟨trivial, trivial, trivial, trivial⟩
              · rw [if_neg (by omega)]
                obtain rfl : q = 2 * i + j := by omega
                rw [Nat.sub_self, hcr]
                first | exact leL_self (encF true _) ⟨trivial, trivial, trivial, trivial⟩ | exact leL_self (encF true (m * n, 1 * 1)) ⟨trivial, trivial, trivial, trivial⟩
            · have eo : opQ w m n = divF (m, 1) (n, 1) := (if_neg h0).trans ((if_neg h1).trans (if_neg h2))
              rw [eo] at hok hcr
              refine ⟨⟨by omega, by omega⟩, by omega, ⟨by omega, by omega⟩, by omega, hm, hn, (m, 1), (n, 1), ⟨fracP_self hm1, fracP_self hn1, hwn h0 h1 h2, hok⟩, by decide, by decide, by decide, ?_⟩
              refine ⟨⟨by unfold capOk; omega, fun q hq => match q, hq with | 0, _ => ⟨rfl, trivial, trivial, trivial, trivial⟩⟩, j + 1, by omega, by omega, ?_⟩
              have hwj : IntKind.i64.wrap ((j : Int) + 1) = ((j + 1 : Nat) : Int) := by rw [IntWalk.i64_in _ (by omega)]; omega
              simp only [hwj, ← Nat.add_assoc, leS_mk, leL_cons, leL_nil, le_junk, le_int, le_bool, le_nil, leLL_nil, leLL_cons, leH_cons, leH_nil, leH1_box, leH1_own, leH1_gone, le_vs, le_agg, le_tup, le_ptr, le_own, le_xp, le_fn, le_opt, le_val, le_elem, le_nil_own, le_nil_vs, leH_ghost, leL_chunk, leXL_id, bnd_int, bnd_bool, bnd_val, bnd_nil, bnd_junk, bnd_vs, bnd_xp, bnd_agg, bnd_tup, bnd_ptr, bnd_own, bnd_elem, bnd_fn, bnd_iface, bnd_opt, bndL_nil, bndL_cons, lenH_cons, lenH_nil, imp_self, implies_true, true_and, and_true]
              refine ⟨by omega, by simp, fun q hq => ?_⟩
              rcases Nat.lt_or_ge q (2 * i + j) with h' | h'
              · rw [if_pos h']; exact leL_self (encF true (crnF x y u v w q)) ⟨trivial, trivial, trivial, trivial⟩
              · rw [if_neg (by omega)]
                obtain rfl : q = 2 * i + j := by omega
                rw [Nat.sub_self, hcr]
                first | exact leL_self (encF true _) ⟨trivial, trivial, trivial, trivial⟩ | exact leL_self (encF true (m * n, 1 * 1)) ⟨trivial, trivial, trivial, trivial⟩
          · obtain rfl : j = 2 := by omega
            refine ⟨i + 1, by omega, by omega, ?_⟩
            have hwi : IntKind.i64.wrap ((i : Int) + 1) = ((i + 1 : Nat) : Int) := by rw [IntWalk.i64_in _ (by omega)]; omega
            simp only [hwi, show 2 * (i + 1) = 2 * i + 2 by omega, leS_mk, leL_cons, leL_nil, le_junk, le_int, le_bool, le_nil, leLL_nil, leLL_cons, leH_cons, leH_nil, leH1_box, leH1_own, leH1_gone, le_vs, le_agg, le_tup, le_ptr, le_own, le_xp, le_fn, le_opt, le_val, le_elem, le_nil_own, le_nil_vs, leH_ghost, leL_chunk, leXL_id, bnd_int, bnd_bool, bnd_val, bnd_nil, bnd_junk, bnd_vs, bnd_xp, bnd_agg, bnd_tup, bnd_ptr, bnd_own, bnd_elem, bnd_fn, bnd_iface, bnd_opt, bndL_nil, bndL_cons, lenH_cons, lenH_nil, imp_self, implies_true, true_and, and_true]
            simp
      · obtain rfl : i = 2 := by omega
        refine ans_le (show k _ [] from h) ?_ ?_
        · dsimp only [expo, encF, natV, go_sem, Option.bind, Option.map, List.append_nil, Nat.beq, List.cons_append, List.nil_append, List.append_eq, List.map_cons, List.map_nil, ite_self, reduceIte]
          simp only [leS_mk, leL_cons, leL_nil, le_junk, le_int, le_bool, le_nil, leLL_nil, leLL_cons, leH_cons, leH_nil, leH1_box, leH1_own, leH1_gone, le_vs, le_agg, le_tup, le_ptr, le_own, le_xp, le_fn, le_opt, le_val, le_elem, le_nil_own, le_nil_vs, leH_ghost, leL_chunk, leXL_id, bnd_int, bnd_bool, bnd_val, bnd_nil, bnd_junk, bnd_vs, bnd_xp, bnd_agg, bnd_tup, bnd_ptr, bnd_own, bnd_elem, bnd_fn, bnd_iface, bnd_opt, bndL_nil, bndL_cons, lenH_cons, lenH_nil, imp_self, implies_true, true_and, and_true]
          decide
        · intro _; simp [freshS, freshL, encF, natV]
  · exact h.1.elim
end Go.Proofs.Ytdognchniaojoaa

/- Intervals: the span of the four corners is what the program computes; the reference's Add, Sub, Mul, Div walked. -/
set_option linter.all false
namespace Go.Proofs.Ytdognchniaojoaa
open Go Go.Vx
set_option maxRecDepth 100000
set_option maxHeartbeats 4000000

/-! ### The least and the greatest fraction -/

theorem cmpQ_lt {p q : Fr} : cmpQ p.1 p.2 q.1 q.2 < 0 ↔ p.1 * q.2 < q.1 * p.2 := by
  unfold cmpQ cmpI; split <;> (try split) <;> omega
theorem cmpQ_gt {p q : Fr} : 0 < cmpQ p.1 p.2 q.1 q.2 ↔ q.1 * p.2 < p.1 * q.2 := by
  unfold cmpQ cmpI; split <;> (try split) <;> omega
def leQ (p q : Fr) : Prop := p.1 * (q.2 : Int) ≤ q.1 * (p.2 : Int)
theorem leQ_trans {p q r : Fr} (hp : 0 < p.2) (hq : 0 < q.2) (hr : 0 < r.2) (h1 : leQ p q) (h2 : leQ q r) : leQ p r := by
  unfold leQ at *
  have e1 := Int.mul_le_mul_of_nonneg_right h1 (Int.natCast_nonneg r.2)
  have e2 := Int.mul_le_mul_of_nonneg_right h2 (Int.natCast_nonneg p.2)
  have hq' : (0 : Int) < q.2 := by omega
  refine Int.le_of_mul_le_mul_right ?_ hq'
  have a1 : p.1 * (r.2 : Int) * (q.2 : Int) = p.1 * (q.2 : Int) * (r.2 : Int) := by rw [Int.mul_assoc, Int.mul_comm (r.2 : Int), ← Int.mul_assoc]
  have a2 : r.1 * (p.2 : Int) * (q.2 : Int) = r.1 * (q.2 : Int) * (p.2 : Int) := by rw [Int.mul_assoc, Int.mul_comm (p.2 : Int), ← Int.mul_assoc]
  have a3 : q.1 * (p.2 : Int) * (r.2 : Int) = q.1 * (r.2 : Int) * (p.2 : Int) := by rw [Int.mul_assoc, Int.mul_comm (p.2 : Int), ← Int.mul_assoc]
  omega
theorem leQ_self (p : Fr) : leQ p p := Int.le_refl _
theorem loQ_spec (x : Fr) : ∀ (r : List Fr), (∀ p ∈ x :: r, 0 < p.2) → loQ x r ∈ x :: r ∧ ∀ y ∈ x :: r, leQ (loQ x r) y := by
  intro r
  induction r generalizing x with
  | nil => exact fun _ => ⟨List.mem_cons_self, fun y hy => by simp at hy; subst hy; exact leQ_self _⟩
  | cons a r ih =>
    intro hall
    have e : loQ x (a :: r) = loQ (if cmpQ a.1 a.2 x.1 x.2 < 0 then a else x) r := rfl
    rw [e]
    have hx := hall x List.mem_cons_self
    have ha := hall a (by simp)
    have hm : ∀ p ∈ (if cmpQ a.1 a.2 x.1 x.2 < 0 then a else x) :: r, 0 < p.2 := by
      intro p hp
      rcases List.mem_cons.1 hp with rfl | hp
      · split <;> assumption
      · exact hall p (by simp [hp])
    obtain ⟨h1, h2⟩ := ih (if cmpQ a.1 a.2 x.1 x.2 < 0 then a else x) hm
    have hL := hm _ h1
    have h3 := h2 _ List.mem_cons_self
    generalize loQ (if cmpQ a.1 a.2 x.1 x.2 < 0 then a else x) r = L at *
    refine ⟨?_, fun y hy => ?_⟩
    · rcases List.mem_cons.1 h1 with h | h
      · rw [h]; split <;> simp
      · simp [h]
    · rcases List.mem_cons.1 hy with rfl | hy
      · split at h3
        · rename_i c; rw [cmpQ_lt] at c; exact leQ_trans hL ha hx h3 (by unfold leQ; omega)
        · exact h3
      · rcases List.mem_cons.1 hy with rfl | hy
        · split at h3
          · exact h3
          · rename_i c; rw [cmpQ_lt] at c; exact leQ_trans hL hx ha h3 (by unfold leQ; omega)
        · exact h2 _ (List.mem_cons_of_mem _ hy)
theorem hiQ_spec (x : Fr) : ∀ (r : List Fr), (∀ p ∈ x :: r, 0 < p.2) → hiQ x r ∈ x :: r ∧ ∀ y ∈ x :: r, leQ y (hiQ x r) := by
  intro r
  induction r generalizing x with
  | nil => exact fun _ => ⟨List.mem_cons_self, fun y hy => by simp at hy; subst hy; exact leQ_self _⟩
  | cons a r ih =>
    intro hall
    have e : hiQ x (a :: r) = hiQ (if 0 < cmpQ a.1 a.2 x.1 x.2 then a else x) r := rfl
    rw [e]
    have hx := hall x List.mem_cons_self
    have ha := hall a (by simp)
    have hm : ∀ p ∈ (if 0 < cmpQ a.1 a.2 x.1 x.2 then a else x) :: r, 0 < p.2 := by
      intro p hp
      rcases List.mem_cons.1 hp with rfl | hp
      · split <;> assumption
      · exact hall p (by simp [hp])
    obtain ⟨h1, h2⟩ := ih (if 0 < cmpQ a.1 a.2 x.1 x.2 then a else x) hm
    have hL := hm _ h1
    have h3 := h2 _ List.mem_cons_self
    generalize hiQ (if 0 < cmpQ a.1 a.2 x.1 x.2 then a else x) r = L at *
    refine ⟨?_, fun y hy => ?_⟩
    · rcases List.mem_cons.1 h1 with h | h
      · rw [h]; split <;> simp
      · simp [h]
    · rcases List.mem_cons.1 hy with rfl | hy
      · split at h3
        · rename_i c; rw [cmpQ_gt] at c; exact leQ_trans hx ha hL (by unfold leQ; omega) h3
        · exact h3
      · rcases List.mem_cons.1 hy with rfl | hy
        · split at h3
          · exact h3
          · rename_i c; rw [cmpQ_gt] at c; exact leQ_trans ha hx hL (by unfold leQ; omega) h3
        · exact h2 _ (List.mem_cons_of_mem _ hy)

/-! ### Quotients of whole numbers -/

theorem divF_fl {m n : Int} (hn : n ≠ 0) : (divF (m, 1) (n, 1)).1 / ((divF (m, 1) (n, 1)).2 : Int) = dnF m n ∧ -((-(divF (m, 1) (n, 1)).1) / ((divF (m, 1) (n, 1)).2 : Int)) = -(dnF (-m) n) := by
  unfold divF dnF nsg
  by_cases h : n < 0
  · have e : ((1 * n.natAbs : Nat) : Int) = -n := by omega
    simp only [h, decide_true, if_true, e]
    constructor
    · congr 1; simp
    · congr 2; simp
  · have e : ((1 * n.natAbs : Nat) : Int) = n := by omega
    simp only [h, decide_false, Bool.false_eq_true, if_false, e]
    constructor
    · congr 1; simp
    · congr 2; simp
theorem crn_mem {x y u v w : Int} (p : Fr) (h : p ∈ crnF x y u v w 0 :: [crnF x y u v w 1, crnF x y u v w 2, crnF x y u v w 3]) : ∃ m n, (m = x ∨ m = y) ∧ (n = u ∨ n = v) ∧ p = opQ w m n := by
  simp only [List.mem_cons, List.not_mem_nil, or_false] at h
  rcases h with rfl | rfl | rfl | rfl
  · exact ⟨x, u, .inl rfl, .inl rfl, rfl⟩
  · exact ⟨x, v, .inl rfl, .inr rfl, rfl⟩
  · exact ⟨y, u, .inr rfl, .inl rfl, rfl⟩
  · exact ⟨y, v, .inr rfl, .inr rfl, rfl⟩
theorem crn_all {x y u v w m n : Int} (hm : m = x ∨ m = y) (hn : n = u ∨ n = v) : opQ w m n ∈ crnF x y u v w 0 :: [crnF x y u v w 1, crnF x y u v w 2, crnF x y u v w 3] := by
  rcases hm with rfl | rfl <;> rcases hn with rfl | rfl
  · exact List.mem_cons_self
  · exact List.mem_cons_of_mem _ List.mem_cons_self
  · exact List.mem_cons_of_mem _ (List.mem_cons_of_mem _ List.mem_cons_self)
  · exact List.mem_cons_of_mem _ (List.mem_cons_of_mem _ (List.mem_cons_of_mem _ List.mem_cons_self))
/-- The span of the corners. -/
def crnS (x y u v w : Int) : Iv × Int := spanQ (crnF x y u v w 0) [crnF x y u v w 1, crnF x y u v w 2, crnF x y u v w 3]

theorem crnS_quo {a b : Iv} {w : Int} (ha : a.1 ≤ a.2) (hb : b.1 ≤ b.2) (h0 : ¬ (b.1 ≤ 0 ∧ 0 ≤ b.2)) (hw : w ≠ 0 ∧ w ≠ 1 ∧ w ≠ 2) : crnS a.1 a.2 b.1 b.2 w = spanR (rndB (divP a b).1) (rndB (divP a b).2) := by
  obtain ⟨x, y⟩ := a
  obtain ⟨u, v⟩ := b
  dsimp only at ha hb h0 ⊢
  have eo : ∀ m n, opQ w m n = divF (m, 1) (n, 1) := fun m n => (if_neg hw.1).trans ((if_neg hw.2.1).trans (if_neg hw.2.2))
  have hn0 : ∀ n, n = u ∨ n = v → n ≠ 0 := fun n hn => by omega
  have hpos : ∀ p ∈ crnF x y u v w 0 :: [crnF x y u v w 1, crnF x y u v w 2, crnF x y u v w 3], 0 < p.2 := fun p hp => by
    obtain ⟨m, n, hm, hn, rfl⟩ := crn_mem p hp
    have := hn0 n hn
    rw [eo]; show 0 < 1 * n.natAbs; omega
  obtain ⟨l1, l2⟩ := loQ_spec _ _ hpos
  obtain ⟨g1, g2⟩ := hiQ_spec _ _ hpos
  have hlp := hpos _ l1
  have hgp := hpos _ g1
  obtain ⟨at1, at2⟩ := divP_at (a := (x, y)) (b := (u, v)) hb h0
  dsimp only at at1 at2
  have din : ∀ m n, (m = x ∨ m = y) → (n = u ∨ n = v) → (divP (x, y) (u, v)).1 ≤ dnF m n ∧ -(dnF (-m) n) ≤ (divP (x, y) (u, v)).2 := fun m n hm hn => by
    have := divP_in (a := (x, y)) (b := (u, v)) (x := m) (y := n) hb h0 (by dsimp only; omega) (by dsimp only; omega) (by dsimp only; omega) (by dsimp only; omega)
    exact ⟨this.1, this.2.2⟩
  have low : rndT false (loQ (crnF x y u v w 0) [crnF x y u v w 1, crnF x y u v w 2, crnF x y u v w 3]).1 (loQ (crnF x y u v w 0) [crnF x y u v w 1, crnF x y u v w 2, crnF x y u v w 3]).2 = (divP (x, y) (u, v)).1 := by
    show (loQ _ _).1 / ((loQ _ _).2 : Int) = _
    apply Int.le_antisymm
    · have key : ∀ m n, (m = x ∨ m = y) → (n = u ∨ n = v) → (loQ (crnF x y u v w 0) [crnF x y u v w 1, crnF x y u v w 2, crnF x y u v w 3]).1 / ((loQ (crnF x y u v w 0) [crnF x y u v w 1, crnF x y u v w 2, crnF x y u v w 3]).2 : Int) ≤ dnF m n := fun m n hm hn => by
        have hmem := crn_all (w := w) hm hn
        have h := l2 _ hmem
        have hp := hpos _ hmem
        rw [eo] at h hp
        rw [← (divF_fl (m := m) (hn0 n hn)).1]
        exact fl_mono (by omega) (by omega) h
      rcases at1 with e | e | e | e <;> rw [e]
      · exact key x u (.inl rfl) (.inl rfl)
      · exact key x v (.inl rfl) (.inr rfl)
      · exact key y u (.inr rfl) (.inl rfl)
      · exact key y v (.inr rfl) (.inr rfl)
    · obtain ⟨m, n, hm, hn, e⟩ := crn_mem _ l1
      rw [e, eo, (divF_fl (m := m) (hn0 n hn)).1]
      exact (din m n hm hn).1
  have high : rndT true (hiQ (crnF x y u v w 0) [crnF x y u v w 1, crnF x y u v w 2, crnF x y u v w 3]).1 (hiQ (crnF x y u v w 0) [crnF x y u v w 1, crnF x y u v w 2, crnF x y u v w 3]).2 = (divP (x, y) (u, v)).2 := by
    show -((-(hiQ _ _).1) / ((hiQ _ _).2 : Int)) = _
    apply Int.le_antisymm
    · obtain ⟨m, n, hm, hn, e⟩ := crn_mem _ g1
      rw [e, eo, (divF_fl (m := m) (hn0 n hn)).2]
      exact (din m n hm hn).2
    · have key : ∀ m n, (m = x ∨ m = y) → (n = u ∨ n = v) → -(dnF (-m) n) ≤ -((-(hiQ (crnF x y u v w 0) [crnF x y u v w 1, crnF x y u v w 2, crnF x y u v w 3]).1) / ((hiQ (crnF x y u v w 0) [crnF x y u v w 1, crnF x y u v w 2, crnF x y u v w 3]).2 : Int)) := fun m n hm hn => by
        have hmem := crn_all (w := w) hm hn
        have h := g2 _ hmem
        have hp := hpos _ hmem
        rw [eo] at h hp
        rw [← (divF_fl (m := m) (hn0 n hn)).2]
        refine Int.neg_le_neg (fl_mono (by omega) (by omega) ?_)
        unfold leQ at h
        rw [Int.neg_mul, Int.neg_mul]; omega
      rcases at2 with e | e | e | e <;> rw [e]
      · exact key x u (.inl rfl) (.inl rfl)
      · exact key x v (.inl rfl) (.inr rfl)
      · exact key y u (.inr rfl) (.inl rfl)
      · exact key y v (.inr rfl) (.inr rfl)
  unfold crnS spanQ rndF
  rw [low, high]

theorem rnd_one (up : Bool) (x : Int) : rndF up x 1 = rndB x := by
  unfold rndF rndT; cases up <;> simp
theorem rndB_num (s : Int) : rndB s = if numOk s then (s, true) else (0, false) := by
  unfold rndB
  by_cases a : -4611686018427387904 ≤ s ∧ s ≤ 4611686018427387904
  · rw [if_pos a, if_pos (numOk_iff.2 a)]
  · rw [if_neg a, if_neg (fun h => a (numOk_iff.1 h))]
theorem span_fit (s t : Int) : spanR (rndB s) (rndB t) = fitF s t := by
  rw [rndB_num, rndB_num]
  unfold spanR fitF
  cases numOk s <;> cases numOk t <;> rfl

/-- What the reference's 'two' returns. -/
def twoF (a b : Iv) (w : Int) : Iv × Int := if ivE [a, b] ≠ 0 then errI (ivE [a, b]) else if w = 3 ∧ b.1 ≤ 0 ∧ 0 ≤ b.2 then errI 9 else crnS a.1 a.2 b.1 b.2 w
theorem two_add (a b : Iv) : twoF a b 0 = addF a b := by
  unfold twoF addF
  split
  · rfl
  · rename_i h
    obtain ⟨⟨_, _, ha⟩, _, _, hb⟩ := ivE2 (by omega : ivE [a, b] = 0)
    rw [if_neg (by omega)]
    have e := spanQ_one (d := 1 * 1) (by decide) (a.1 * ((1 : Nat) : Int) + b.1 * ((1 : Nat) : Int)) [a.1 * ((1 : Nat) : Int) + b.2 * ((1 : Nat) : Int), a.2 * ((1 : Nat) : Int) + b.1 * ((1 : Nat) : Int), a.2 * ((1 : Nat) : Int) + b.2 * ((1 : Nat) : Int)]
    have e2 : crnS a.1 a.2 b.1 b.2 0 = _ := e
    rw [e2, spanI]
    have e3 : ((1 * 1 : Nat) : Int) = 1 := rfl
    rw [e3, rnd_one, rnd_one, span_fit]
    have l := lowI_spec (a.1 * ((1 : Nat) : Int) + b.1 * ((1 : Nat) : Int)) [a.1 * ((1 : Nat) : Int) + b.2 * ((1 : Nat) : Int), a.2 * ((1 : Nat) : Int) + b.1 * ((1 : Nat) : Int), a.2 * ((1 : Nat) : Int) + b.2 * ((1 : Nat) : Int)]
    have g := highI_spec (a.1 * ((1 : Nat) : Int) + b.1 * ((1 : Nat) : Int)) [a.1 * ((1 : Nat) : Int) + b.2 * ((1 : Nat) : Int), a.2 * ((1 : Nat) : Int) + b.1 * ((1 : Nat) : Int), a.2 * ((1 : Nat) : Int) + b.2 * ((1 : Nat) : Int)]
    have c1 : ((1 : Nat) : Int) = 1 := rfl
    simp only [List.mem_cons, List.not_mem_nil, or_false, forall_eq_or_imp, forall_eq, c1, Int.mul_one] at l g ⊢
    congr 1 <;> omega
theorem ivE_neg {a b : Iv} (h : ivE [a, b] = 0) : ivE [a, (-b.2, -b.1)] = 0 := by
  obtain ⟨⟨_, _, ha⟩, _, _, hb⟩ := ivE2 h
  rw [ivE, if_pos, if_pos]
  · simp only [List.all_cons, List.all_nil, Bool.and_true, Bool.and_eq_true, decide_eq_true_eq]; omega
  · simp only [List.all_cons, List.all_nil, Bool.and_true, Bool.and_eq_true, numOk_iff]; omega
theorem two_sub (a b : Iv) : twoF a b 1 = subF a b := by
  unfold twoF subF
  split
  · rfl
  · rename_i h
    have h0 : ivE [a, b] = 0 := by omega
    obtain ⟨⟨_, _, ha⟩, _, _, hb⟩ := ivE2 h0
    rw [if_neg (by omega), addF, if_neg (by rw [ivE_neg h0]; decide)]
    have e := spanQ_one (d := 1 * 1) (by decide) (a.1 * ((1 : Nat) : Int) + -b.1 * ((1 : Nat) : Int)) [a.1 * ((1 : Nat) : Int) + -b.2 * ((1 : Nat) : Int), a.2 * ((1 : Nat) : Int) + -b.1 * ((1 : Nat) : Int), a.2 * ((1 : Nat) : Int) + -b.2 * ((1 : Nat) : Int)]
    have e2 : crnS a.1 a.2 b.1 b.2 1 = _ := e
    rw [e2, spanI]
    have e3 : ((1 * 1 : Nat) : Int) = 1 := rfl
    rw [e3, rnd_one, rnd_one, span_fit]
    have l := lowI_spec (a.1 * ((1 : Nat) : Int) + -b.1 * ((1 : Nat) : Int)) [a.1 * ((1 : Nat) : Int) + -b.2 * ((1 : Nat) : Int), a.2 * ((1 : Nat) : Int) + -b.1 * ((1 : Nat) : Int), a.2 * ((1 : Nat) : Int) + -b.2 * ((1 : Nat) : Int)]
    have g := highI_spec (a.1 * ((1 : Nat) : Int) + -b.1 * ((1 : Nat) : Int)) [a.1 * ((1 : Nat) : Int) + -b.2 * ((1 : Nat) : Int), a.2 * ((1 : Nat) : Int) + -b.1 * ((1 : Nat) : Int), a.2 * ((1 : Nat) : Int) + -b.2 * ((1 : Nat) : Int)]
    have c1 : ((1 : Nat) : Int) = 1 := rfl
    simp only [List.mem_cons, List.not_mem_nil, or_false, forall_eq_or_imp, forall_eq, c1, Int.mul_one] at l g ⊢
    congr 1 <;> omega
theorem two_mul (a b : Iv) : twoF a b 2 = mulF a b := by
  unfold twoF mulF
  split
  · rfl
  · rw [if_neg (by omega)]
    exact spanQ_one (d := 1 * 1) (by decide) (a.1 * b.1) [a.1 * b.2, a.2 * b.1, a.2 * b.2]
theorem two_quo (a b : Iv) : twoF a b 3 = quoF a b := by
  unfold twoF quoF
  split
  · rfl
  · rename_i h
    obtain ⟨⟨_, _, ha⟩, _, _, hb⟩ := ivE2 (by omega : ivE [a, b] = 0)
    split
    · rename_i h0
      rw [if_pos h0.2]
    · rename_i h0
      have h0 : ¬ (b.1 ≤ 0 ∧ 0 ≤ b.2) := fun hh => h0 ⟨rfl, hh⟩
      rw [if_neg h0, crnS_quo ha hb h0 (by decide)]
      unfold divP
      split <;> rfl

/-! ### The walk -/

def v64 : VF := { ntmps := 37, res := [.cell 6 true 2, .tmp 7], body :=
 (.seq (.region [⟨(some 3), none, .box, [.tm 0]⟩,
  ⟨(some 4), none, .box, [.tm 1]⟩,
  ⟨(some 6), none, (.alloc [(.int .i64 0), (.int .i64 0)]), []⟩,
  ⟨(some 7), none, .mov, [.cn (.int .i64 0)]⟩])
 (.seq (.region [⟨(some 9), none, (.load true 2), [.tm 3]⟩,
  ⟨(some 10), none, (.load true 2), [.tm 4]⟩,
  ⟨(some 11), none, (.buildSlice 2 2 [(.int .i64 0), (.int .i64 0)] [(0, 2), (2, 2)]), [.tm 9, .tm 10]⟩,
  ⟨(some 12), none, (.call 65), [.tm 11]⟩,
  ⟨(some 8), none, .mov, [.tm 12]⟩])
 (.seq (.seq (.region [⟨(some 13), none, .mov, [.tm 8]⟩,
  ⟨(some 14), none, (.cmp .neq), [.tm 13, .cn (.int .i64 0)]⟩])
 (.cond (.tm 14) (.seq (.region [⟨(some 15), none, (.build [(.int .i64 0), (.int .i64 0)] []), []⟩,
  ⟨(some 16), none, .mov, [.tm 8]⟩,
  ⟨none, none, (.store 2), [.tm 6, .tm 15]⟩,
  ⟨(some 7), none, .mov, [.tm 16]⟩])
 .ret)
  .skip))
 (.seq (.seq (.region [⟨(some 17), none, .mov, [.tm 2]⟩,
  ⟨(some 18), none, (.cmp .eql), [.tm 17, .cn (.int .i64 3)]⟩,
  ⟨(some 19), none, .mov, [.tm 18]⟩,
  ⟨(some 20), (some (19, true)), (.fieldAddr 0), [.tm 4]⟩,
  ⟨(some 21), (some (19, true)), (.load false 1), [.tm 20]⟩,
  ⟨(some 22), (some (19, true)), (.cmp .leq), [.tm 21, .cn (.int .i64 0)]⟩,
  ⟨(some 23), none, .and, [.tm 19, .tm 22]⟩,
  ⟨(some 24), none, .mov, [.tm 23]⟩,
  ⟨(some 25), (some (24, true)), (.fieldAddr 1), [.tm 4]⟩,
  ⟨(some 26), (some (24, true)), (.load false 1), [.tm 25]⟩,
  ⟨(some 27), (some (24, true)), (.cmp .geq), [.tm 26, .cn (.int .i64 0)]⟩,
  ⟨(some 28), none, .and, [.tm 24, .tm 27]⟩])
 (.cond (.tm 28) (.seq (.region [⟨(some 29), none, (.build [(.int .i64 0), (.int .i64 0)] []), []⟩,
  ⟨none, none, (.store 2), [.tm 6, .tm 29]⟩,
  ⟨(some 7), none, .mov, [.cn (.int .i64 9)]⟩])
 .ret)
  .skip))
 (.seq (.region [⟨(some 30), none, (.load true 2), [.tm 3]⟩,
  ⟨(some 31), none, (.load true 2), [.tm 4]⟩,
  ⟨(some 32), none, .mov, [.tm 2]⟩,
  ⟨(some 33), none, (.call 84), [.tm 30, .tm 31, .tm 32]⟩,
  ⟨(some 34), none, (.call 49), [.tm 33]⟩,
  ⟨(some 35), none, (.ext 0), [.tm 34]⟩,
  ⟨(some 36), none, (.ext 1), [.tm 34]⟩,
  ⟨none, none, (.store 2), [.tm 6, .tm 35]⟩,
  ⟨(some 7), none, .mov, [.tm 36]⟩])
 .ret))))) }
theorem v64_is : vfunc Try.prog Try.f64 = some v64 := by kernel_rfl
def v30 : VF := { ntmps := 11, res := [.cell 4 true 2, .tmp 5], body :=
 (.seq (.region [⟨(some 2), none, .box, [.tm 0]⟩,
  ⟨(some 3), none, .box, [.tm 1]⟩,
  ⟨(some 4), none, (.alloc [(.int .i64 0), (.int .i64 0)]), []⟩,
  ⟨(some 5), none, .mov, [.cn (.int .i64 0)]⟩])
 (.seq (.region [⟨(some 6), none, (.load true 2), [.tm 2]⟩,
  ⟨(some 7), none, (.load true 2), [.tm 3]⟩,
  ⟨(some 8), none, (.call 64), [.tm 6, .tm 7, .cn (.int .i64 0)]⟩,
  ⟨(some 9), none, (.ext 0), [.tm 8]⟩,
  ⟨(some 10), none, (.ext 1), [.tm 8]⟩,
  ⟨none, none, (.store 2), [.tm 4, .tm 9]⟩,
  ⟨(some 5), none, .mov, [.tm 10]⟩])
 .ret)) }
theorem v30_is : vfunc Try.prog Try.f30 = some v30 := by kernel_rfl
def v31 : VF := { ntmps := 11, res := [.cell 4 true 2, .tmp 5], body :=
 (.seq (.region [⟨(some 2), none, .box, [.tm 0]⟩,
  ⟨(some 3), none, .box, [.tm 1]⟩,
  ⟨(some 4), none, (.alloc [(.int .i64 0), (.int .i64 0)]), []⟩,
  ⟨(some 5), none, .mov, [.cn (.int .i64 0)]⟩])
 (.seq (.region [⟨(some 6), none, (.load true 2), [.tm 2]⟩,
  ⟨(some 7), none, (.load true 2), [.tm 3]⟩,
  ⟨(some 8), none, (.call 64), [.tm 6, .tm 7, .cn (.int .i64 1)]⟩,
  ⟨(some 9), none, (.ext 0), [.tm 8]⟩,
  ⟨(some 10), none, (.ext 1), [.tm 8]⟩,
  ⟨none, none, (.store 2), [.tm 4, .tm 9]⟩,
  ⟨(some 5), none, .mov, [.tm 10]⟩])
 .ret)) }
theorem v31_is : vfunc Try.prog Try.f31 = some v31 := by kernel_rfl
def v34 : VF := { ntmps := 11, res := [.cell 4 true 2, .tmp 5], body :=
 (.seq (.region [⟨(some 2), none, .box, [.tm 0]⟩,
  ⟨(some 3), none, .box, [.tm 1]⟩,
  ⟨(some 4), none, (.alloc [(.int .i64 0), (.int .i64 0)]), []⟩,
  ⟨(some 5), none, .mov, [.cn (.int .i64 0)]⟩])
 (.seq (.region [⟨(some 6), none, (.load true 2), [.tm 2]⟩,
  ⟨(some 7), none, (.load true 2), [.tm 3]⟩,
  ⟨(some 8), none, (.call 64), [.tm 6, .tm 7, .cn (.int .i64 2)]⟩,
  ⟨(some 9), none, (.ext 0), [.tm 8]⟩,
  ⟨(some 10), none, (.ext 1), [.tm 8]⟩,
  ⟨none, none, (.store 2), [.tm 4, .tm 9]⟩,
  ⟨(some 5), none, .mov, [.tm 10]⟩])
 .ret)) }
theorem v34_is : vfunc Try.prog Try.f34 = some v34 := by kernel_rfl
def v35 : VF := { ntmps := 11, res := [.cell 4 true 2, .tmp 5], body :=
 (.seq (.region [⟨(some 2), none, .box, [.tm 0]⟩,
  ⟨(some 3), none, .box, [.tm 1]⟩,
  ⟨(some 4), none, (.alloc [(.int .i64 0), (.int .i64 0)]), []⟩,
  ⟨(some 5), none, .mov, [.cn (.int .i64 0)]⟩])
 (.seq (.region [⟨(some 6), none, (.load true 2), [.tm 2]⟩,
  ⟨(some 7), none, (.load true 2), [.tm 3]⟩,
  ⟨(some 8), none, (.call 64), [.tm 6, .tm 7, .cn (.int .i64 3)]⟩,
  ⟨(some 9), none, (.ext 0), [.tm 8]⟩,
  ⟨(some 10), none, (.ext 1), [.tm 8]⟩,
  ⟨none, none, (.store 2), [.tm 4, .tm 9]⟩,
  ⟨(some 5), none, .mov, [.tm 10]⟩])
 .ret)) }
theorem v35_is : vfunc Try.prog Try.f35 = some v35 := by kernel_rfl


def twoC : Ctr := { alias := false, of := fun a => match a with
  | [.agg [.int .i64 x, .int .i64 y], .agg [.int .i64 u, .int .i64 v], .int .i64 w] => .pre (w = 0 ∨ w = 1 ∨ w = 2 ∨ w = 3) (.fin (.tup [.agg (enc2 (twoF (x, y) (u, v) w).1), .int .i64 (twoF (x, y) (u, v) w).2]) [])
  | _ => noC }
def U3 : Env := { ct := fun n => match n with | 65 => some ivlC | 84 => some crnC | 49 => some spanqC | _ => none, fn := fun _ => none, meth := fun _ _ => none }
theorem U3_ct65 : U3.ct 65 = some ivlC := rfl
theorem U3_ct84 : U3.ct 84 = some crnC := rfl
theorem U3_ct49 : U3.ct 49 = some spanqC := rfl
theorem U3_ok : EnvOk Try.prog U3 := by
  refine ⟨fun f c h => ?_, fun f vf h => ?_, fun _ _ => rfl, by kernel_rfl⟩
  · simp only [U3] at h
    split at h
    · cases h; exact ⟨rbad_ok, Try.f65, Try.func65, by kernel_rfl, by kernel_rfl⟩
    · cases h; exact ⟨crn_ok, Try.f84, Try.func84, by kernel_rfl, by kernel_rfl⟩
    · cases h; exact ⟨spanq_ok, Try.f49, Try.func49, by kernel_rfl, by kernel_rfl⟩
    · cases h
  · cases h


theorem two_ok : twoC.ok Try.prog 64 := by
  refine contract Try.func64 v64_is U3_ok 300 twoC fun args k h => ⟨args, ?_⟩
  simp only [twoC] at h
  split at h
  · rename_i x y u v w
    refine ⟨by simp [leL, le], ?_⟩
    obtain ⟨hw, h⟩ := h
    have h : k (.tup [.agg (enc2 (twoF (x, y) (u, v) w).1), .int .i64 (twoF (x, y) (u, v) w).2]) [] := h
    dsimp only [v64, U3_ct65, U3_ct84, U3_ct49, ivlC, crnC, spanqC, enc2, go_sem, Option.bind, Option.map, List.append_nil, Nat.beq, List.cons_append, List.nil_append, List.append_eq, List.map_cons, List.map_nil, ite_self, reduceIte]
    simp only [true_and, and_true, imp_self, implies_true, decide_eq_true_eq, decide_eq_false_iff_not, Nat.reduceAdd, Nat.reduceLeDiff, Bool.not_not, reduceCtorEq, false_imp_iff, Bool.not_eq_true', Bool.not_eq_false', Bool.false_eq_true, and_self, forall_const, ne_eq, not_false_eq_true, Nat.reduceEqDiff]
    refine ⟨by decide, [(x, y), (u, v)], ⟨⟨rfl, rfl, fun k hk => match k, hk with | 0, _ => leXL_self [.int .i64 x, .int .i64 y] | 1, _ => leXL_self [.int .i64 u, .int .i64 v]⟩, by simp⟩, fun he => ?_, fun he => ⟨fun hz => ?_, fun hz => ?_⟩⟩
    · rw [twoF, if_pos he] at h
      exact ans_iv (r := errI (ivE [(x, y), (u, v)])) h
    · simp only [Bool.and_eq_true, decide_eq_true_eq] at hz
      rw [twoF, if_neg (by omega), if_pos ⟨hz.1.1, hz.1.2, hz.2⟩] at h
      exact ans_iv (r := errI 9) h
    · have hz' : ¬ (w = 3 ∧ u ≤ 0 ∧ 0 ≤ v) := by
        intro hh
        have : (decide (w = 3) && decide (u ≤ 0) && decide (0 ≤ v)) = true := by
          simp only [Bool.and_eq_true, decide_eq_true_eq]; exact ⟨⟨hh.1, hh.2.1⟩, hh.2.2⟩
        rw [this] at hz; cases hz
      rw [twoF, if_neg (by omega), if_neg hz'] at h
      obtain ⟨⟨hx, hy, hxy⟩, hu, hv, huv⟩ := ivE2 he
      dsimp only at hx hy hxy hu hv huv
      have hz2 : ¬ w = 0 → ¬ w = 1 → ¬ w = 2 → ¬ u = 0 ∧ ¬ v = 0 := fun a b c => by omega
      refine ⟨⟨⟨hx, hy⟩, ⟨hu, hv⟩, hz2⟩, crnF x y u v w 0, [crnF x y u v w 1, crnF x y u v w 2, crnF x y u v w 3], ⟨⟨rfl, rfl, fun k hk => match k, hk with
        | 0, _ => leXL_self (encF false (crnF x y u v w 0)) | 1, _ => leXL_self (encF false (crnF x y u v w 1)) | 2, _ => leXL_self (encF false (crnF x y u v w 2)) | 3, _ => leXL_self (encF false (crnF x y u v w 3))⟩, by simp, fun p hp => ?_⟩, by decide, by decide, ?_⟩
      · obtain ⟨m, n, hm, hn, rfl⟩ := crn_mem p hp
        refine opQ_ok ?_ ?_ fun a b c => ?_
        · rcases hm with rfl | rfl <;> assumption
        · rcases hn with rfl | rfl <;> assumption
        · have := hz2 a b c
          rcases hn with rfl | rfl
          · exact this.1
          · exact this.2
      · exact ans_iv (r := crnS x y u v w) h
  · exact h.1.elim

def U4 : Env := { ct := fun n => match n with | 64 => some twoC | _ => none, fn := fun _ => none, meth := fun _ _ => none }
theorem U4_ct64 : U4.ct 64 = some twoC := rfl
theorem U4_ok : EnvOk Try.prog U4 := by
  refine ⟨fun f c h => ?_, fun f vf h => ?_, fun _ _ => rfl, by kernel_rfl⟩
  · simp only [U4] at h
    split at h
    · cases h; exact ⟨two_ok, Try.f64, Try.func64, by kernel_rfl, by kernel_rfl⟩
    · cases h
  · cases h

theorem radd_ok : addC.ok Try.prog 30 := by
  refine contract Try.func30 v30_is U4_ok 300 addC fun args k h => ⟨args, ?_⟩
  simp only [addC, iv2C] at h
  split at h
  · rename_i x y u v
    refine ⟨by simp [leL, le], ?_⟩
    have h : k (.tup [.agg (enc2 (addF (x, y) (u, v)).1), .int .i64 (addF (x, y) (u, v)).2]) [] := h
    dsimp only [v30, U4_ct64, twoC, enc2, go_sem, Option.bind, Option.map, List.append_nil, Nat.beq, List.cons_append, List.nil_append, List.append_eq, List.map_cons, List.map_nil, ite_self, reduceIte]
    simp only [true_and, and_true, imp_self, implies_true, decide_eq_true_eq, decide_eq_false_iff_not, Nat.reduceAdd, Nat.reduceLeDiff, Bool.not_not, reduceCtorEq, false_imp_iff, Bool.not_eq_true', Bool.not_eq_false', Bool.false_eq_true, and_self, forall_const, ne_eq, not_false_eq_true, Nat.reduceEqDiff]
    rw [← two_add] at h
    exact ⟨by decide, by decide, by decide, ans_iv (r := twoF (x, y) (u, v) 0) h⟩
  · exact h.1.elim
theorem rsub_ok : subC.ok Try.prog 31 := by
  refine contract Try.func31 v31_is U4_ok 300 subC fun args k h => ⟨args, ?_⟩
  simp only [subC, iv2C] at h
  split at h
  · rename_i x y u v
    refine ⟨by simp [leL, le], ?_⟩
    have h : k (.tup [.agg (enc2 (subF (x, y) (u, v)).1), .int .i64 (subF (x, y) (u, v)).2]) [] := h
    dsimp only [v31, U4_ct64, twoC, enc2, go_sem, Option.bind, Option.map, List.append_nil, Nat.beq, List.cons_append, List.nil_append, List.append_eq, List.map_cons, List.map_nil, ite_self, reduceIte]
    simp only [true_and, and_true, imp_self, implies_true, decide_eq_true_eq, decide_eq_false_iff_not, Nat.reduceAdd, Nat.reduceLeDiff, Bool.not_not, reduceCtorEq, false_imp_iff, Bool.not_eq_true', Bool.not_eq_false', Bool.false_eq_true, and_self, forall_const, ne_eq, not_false_eq_true, Nat.reduceEqDiff]
    rw [← two_sub] at h
    exact ⟨by decide, by decide, by decide, ans_iv (r := twoF (x, y) (u, v) 1) h⟩
  · exact h.1.elim
theorem rmul_ok : mulC.ok Try.prog 34 := by
  refine contract Try.func34 v34_is U4_ok 300 mulC fun args k h => ⟨args, ?_⟩
  simp only [mulC, iv2C] at h
  split at h
  · rename_i x y u v
    refine ⟨by simp [leL, le], ?_⟩
    have h : k (.tup [.agg (enc2 (mulF (x, y) (u, v)).1), .int .i64 (mulF (x, y) (u, v)).2]) [] := h
    dsimp only [v34, U4_ct64, twoC, enc2, go_sem, Option.bind, Option.map, List.append_nil, Nat.beq, List.cons_append, List.nil_append, List.append_eq, List.map_cons, List.map_nil, ite_self, reduceIte]
    simp only [true_and, and_true, imp_self, implies_true, decide_eq_true_eq, decide_eq_false_iff_not, Nat.reduceAdd, Nat.reduceLeDiff, Bool.not_not, reduceCtorEq, false_imp_iff, Bool.not_eq_true', Bool.not_eq_false', Bool.false_eq_true, and_self, forall_const, ne_eq, not_false_eq_true, Nat.reduceEqDiff]
    rw [← two_mul] at h
    exact ⟨by decide, by decide, by decide, ans_iv (r := twoF (x, y) (u, v) 2) h⟩
  · exact h.1.elim
theorem rdiv_ok : quoC.ok Try.prog 35 := by
  refine contract Try.func35 v35_is U4_ok 300 quoC fun args k h => ⟨args, ?_⟩
  simp only [quoC, iv2C] at h
  split at h
  · rename_i x y u v
    refine ⟨by simp [leL, le], ?_⟩
    have h : k (.tup [.agg (enc2 (quoF (x, y) (u, v)).1), .int .i64 (quoF (x, y) (u, v)).2]) [] := h
    dsimp only [v35, U4_ct64, twoC, enc2, go_sem, Option.bind, Option.map, List.append_nil, Nat.beq, List.cons_append, List.nil_append, List.append_eq, List.map_cons, List.map_nil, ite_self, reduceIte]
    simp only [true_and, and_true, imp_self, implies_true, decide_eq_true_eq, decide_eq_false_iff_not, Nat.reduceAdd, Nat.reduceLeDiff, Bool.not_not, reduceCtorEq, false_imp_iff, Bool.not_eq_true', Bool.not_eq_false', Bool.false_eq_true, and_self, forall_const, ne_eq, not_false_eq_true, Nat.reduceEqDiff]
    rw [← two_quo] at h
    exact ⟨by decide, by decide, by decide, ans_iv (r := twoF (x, y) (u, v) 3) h⟩
  · exact h.1.elim
end Go.Proofs.Ytdognchniaojoaa

/- Spans: the law of sums, products and quotients, walked. -/
set_option linter.all false
namespace Go.Proofs.Ytdognchniaojoaa
open Go Go.Vx
set_option maxRecDepth 100000
set_option maxHeartbeats 4000000

def v8 : VF := { ntmps := 107, res := [.tmp 4], body :=
 (.seq (.region [⟨(some 2), none, .box, [.tm 0]⟩,
  ⟨(some 3), none, .box, [.tm 1]⟩,
  ⟨(some 4), none, .mov, [.cn (.bool false)]⟩])
 (.seq (.region [⟨(some 14), none, (.load true 2), [.tm 2]⟩,
  ⟨(some 15), none, (.load true 2), [.tm 3]⟩,
  ⟨(some 16), none, (.call 24), [.tm 14, .tm 15]⟩,
  ⟨(some 13), none, .mov, [.tm 16]⟩,
  ⟨(some 17), none, (.ext 0), [.tm 13]⟩,
  ⟨(some 18), none, (.ext 1), [.tm 13]⟩,
  ⟨(some 5), none, (.alloc [(.int .i64 0), (.int .i64 0)]), []⟩,
  ⟨none, none, (.store 2), [.tm 5, .tm 17]⟩,
  ⟨(some 6), none, .mov, [.tm 18]⟩])
 (.seq (.region [⟨(some 20), none, (.load true 2), [.tm 2]⟩,
  ⟨(some 21), none, (.load true 2), [.tm 3]⟩,
  ⟨(some 22), none, (.call 30), [.tm 20, .tm 21]⟩,
  ⟨(some 19), none, .mov, [.tm 22]⟩,
  ⟨(some 23), none, (.ext 0), [.tm 19]⟩,
  ⟨(some 24), none, (.ext 1), [.tm 19]⟩,
  ⟨(some 7), none, (.alloc [(.int .i64 0), (.int .i64 0)]), []⟩,
  ⟨none, none, (.store 2), [.tm 7, .tm 23]⟩,
  ⟨(some 8), none, .mov, [.tm 24]⟩])
 (.seq (.region [⟨(some 26), none, (.load true 2), [.tm 2]⟩,
  ⟨(some 27), none, (.load true 2), [.tm 3]⟩,
  ⟨(some 28), none, (.call 25), [.tm 26, .tm 27]⟩,
  ⟨(some 25), none, .mov, [.tm 28]⟩,
  ⟨(some 29), none, (.ext 0), [.tm 25]⟩,
  ⟨(some 30), none, (.ext 1), [.tm 25]⟩,
  ⟨(some 9), none, (.alloc [(.int .i64 0), (.int .i64 0)]), []⟩,
  ⟨none, none, (.store 2), [.tm 9, .tm 29]⟩,
  ⟨(some 10), none, .mov, [.tm 30]⟩])
 (.seq (.region [⟨(some 32), none, (.load true 2), [.tm 2]⟩,
  ⟨(some 33), none, (.load true 2), [.tm 3]⟩,
  ⟨(some 34), none, (.call 31), [.tm 32, .tm 33]⟩,
  ⟨(some 31), none, .mov, [.tm 34]⟩,
  ⟨(some 35), none, (.ext 0), [.tm 31]⟩,
  ⟨(some 36), none, (.ext 1), [.tm 31]⟩,
  ⟨(some 11), none, (.alloc [(.int .i64 0), (.int .i64 0)]), []⟩,
  ⟨none, none, (.store 2), [.tm 11, .tm 35]⟩,
  ⟨(some 12), none, .mov, [.tm 36]⟩])
 (.seq (.seq (.draw [] [⟨⟨(some 37), none, (.load true 2), [.tm 2]⟩, []⟩,
  ⟨⟨(some 39), none, (.load true 2), [.tm 2]⟩, []⟩,
  ⟨⟨(some 38), none, (.call 32), [.tm 37]⟩, []⟩,
  ⟨⟨(some 40), none, (.call 33), [.tm 39]⟩, []⟩,
  ⟨⟨(some 41), none, (.cmp .neq), [.tm 38, .tm 40]⟩, []⟩,
  ⟨⟨(some 42), none, .mov, [.tm 41]⟩, []⟩,
  ⟨⟨(some 43), (some (42, false)), (.load true 2), [.tm 5]⟩, []⟩,
  ⟨⟨(some 44), (some (42, false)), (.load true 2), [.tm 7]⟩, []⟩,
  ⟨⟨(some 45), (some (42, false)), (.eqv true [true, true]), [.tm 43, .tm 44]⟩, []⟩,
  ⟨⟨(some 46), none, .or, [.tm 42, .tm 45]⟩, []⟩,
  ⟨⟨(some 47), none, .mov, [.tm 46]⟩, []⟩,
  ⟨⟨(some 48), (some (47, false)), .mov, [.tm 6]⟩, []⟩,
  ⟨⟨(some 49), (some (47, false)), .mov, [.tm 8]⟩, []⟩,
  ⟨⟨(some 50), (some (47, false)), (.cmp .neq), [.tm 48, .tm 49]⟩, []⟩,
  ⟨⟨(some 51), none, .or, [.tm 47, .tm 50]⟩, []⟩,
  ⟨⟨(some 52), none, .mov, [.tm 51]⟩, []⟩,
  ⟨⟨(some 53), (some (52, false)), (.load true 2), [.tm 9]⟩, []⟩,
  ⟨⟨(some 54), (some (52, false)), (.load true 2), [.tm 11]⟩, []⟩,
  ⟨⟨(some 55), (some (52, false)), (.eqv true [true, true]), [.tm 53, .tm 54]⟩, []⟩,
  ⟨⟨(some 56), none, .or, [.tm 52, .tm 55]⟩, []⟩,
  ⟨⟨(some 57), none, .mov, [.tm 56]⟩, []⟩,
  ⟨⟨(some 58), (some (57, false)), .mov, [.tm 10]⟩, []⟩,
  ⟨⟨(some 59), (some (57, false)), .mov, [.tm 12]⟩, []⟩,
  ⟨⟨(some 60), (some (57, false)), (.cmp .neq), [.tm 58, .tm 59]⟩, []⟩,
  ⟨⟨(some 61), none, .or, [.tm 57, .tm 60]⟩, []⟩])
 (.cond (.tm 61) (.seq (.region [⟨(some 4), none, .mov, [.cn (.bool false)]⟩])
 .ret)
  .skip))
 (.seq (.region [⟨(some 63), none, (.load true 2), [.tm 2]⟩,
  ⟨(some 64), none, (.load true 2), [.tm 3]⟩,
  ⟨(some 65), none, (.call 23), [.tm 63, .tm 64]⟩,
  ⟨(some 62), none, .mov, [.tm 65]⟩,
  ⟨(some 66), none, (.ext 0), [.tm 62]⟩,
  ⟨(some 67), none, (.ext 1), [.tm 62]⟩,
  ⟨none, none, (.store 2), [.tm 5, .tm 66]⟩,
  ⟨(some 6), none, .mov, [.tm 67]⟩])
 (.seq (.region [⟨(some 69), none, (.load true 2), [.tm 2]⟩,
  ⟨(some 70), none, (.load true 2), [.tm 3]⟩,
  ⟨(some 71), none, (.call 34), [.tm 69, .tm 70]⟩,
  ⟨(some 68), none, .mov, [.tm 71]⟩,
  ⟨(some 72), none, (.ext 0), [.tm 68]⟩,
  ⟨(some 73), none, (.ext 1), [.tm 68]⟩,
  ⟨none, none, (.store 2), [.tm 7, .tm 72]⟩,
  ⟨(some 8), none, .mov, [.tm 73]⟩])
 (.seq (.region [⟨(some 75), none, (.load true 2), [.tm 2]⟩,
  ⟨(some 76), none, (.load true 2), [.tm 3]⟩,
  ⟨(some 77), none, (.call 26), [.tm 75, .tm 76]⟩,
  ⟨(some 74), none, .mov, [.tm 77]⟩,
  ⟨(some 78), none, (.ext 0), [.tm 74]⟩,
  ⟨(some 79), none, (.ext 1), [.tm 74]⟩,
  ⟨none, none, (.store 2), [.tm 9, .tm 78]⟩,
  ⟨(some 10), none, .mov, [.tm 79]⟩])
 (.seq (.region [⟨(some 81), none, (.load true 2), [.tm 2]⟩,
  ⟨(some 82), none, (.load true 2), [.tm 3]⟩,
  ⟨(some 83), none, (.call 35), [.tm 81, .tm 82]⟩,
  ⟨(some 80), none, .mov, [.tm 83]⟩,
  ⟨(some 84), none, (.ext 0), [.tm 80]⟩,
  ⟨(some 85), none, (.ext 1), [.tm 80]⟩,
  ⟨none, none, (.store 2), [.tm 11, .tm 84]⟩,
  ⟨(some 12), none, .mov, [.tm 85]⟩])
 (.seq (.region [⟨(some 86), none, (.load true 2), [.tm 5]⟩,
  ⟨(some 87), none, (.load true 2), [.tm 7]⟩,
  ⟨(some 88), none, (.eqv false [true, true]), [.tm 86, .tm 87]⟩,
  ⟨(some 89), none, .mov, [.tm 88]⟩,
  ⟨(some 90), (some (89, true)), .mov, [.tm 6]⟩,
  ⟨(some 91), (some (89, true)), .mov, [.tm 8]⟩,
  ⟨(some 92), (some (89, true)), (.cmp .eql), [.tm 90, .tm 91]⟩,
  ⟨(some 93), none, .and, [.tm 89, .tm 92]⟩,
  ⟨(some 94), none, .mov, [.tm 93]⟩,
  ⟨(some 95), (some (94, true)), (.load true 2), [.tm 9]⟩,
  ⟨(some 96), (some (94, true)), (.load true 2), [.tm 11]⟩,
  ⟨(some 97), (some (94, true)), (.eqv false [true, true]), [.tm 95, .tm 96]⟩,
  ⟨(some 98), none, .and, [.tm 94, .tm 97]⟩,
  ⟨(some 99), none, .mov, [.tm 98]⟩,
  ⟨(some 100), (some (99, true)), .mov, [.tm 10]⟩,
  ⟨(some 101), (some (99, true)), .mov, [.tm 12]⟩,
  ⟨(some 102), (some (99, true)), (.cmp .eql), [.tm 100, .tm 101]⟩,
  ⟨(some 103), none, .and, [.tm 99, .tm 102]⟩,
  ⟨(some 104), none, .mov, [.tm 103]⟩,
  ⟨(some 105), (some (104, true)), (.call 16), []⟩,
  ⟨(some 106), none, .and, [.tm 104, .tm 105]⟩,
  ⟨(some 4), none, .mov, [.tm 106]⟩])
 .ret))))))))))) }
theorem v8_is : vfunc Try.prog Try.f8 = some v8 := by kernel_rfl


def A9 : Env := { ct := fun n => match n with | 16 => some trueC | 32 => some iv1C | 33 => some iv1C | 24 => some addC | 30 => some addC | 25 => some subC | 31 => some subC | 23 => some mulC | 34 => some mulC | 26 => some quoC | 35 => some quoC | _ => none, fn := fun _ => none, meth := fun _ _ => none }
theorem A9_ct16 : A9.ct 16 = some trueC := rfl
theorem A9_ct32 : A9.ct 32 = some iv1C := rfl
theorem A9_ct33 : A9.ct 33 = some iv1C := rfl
theorem A9_ct24 : A9.ct 24 = some addC := rfl
theorem A9_ct30 : A9.ct 30 = some addC := rfl
theorem A9_ct25 : A9.ct 25 = some subC := rfl
theorem A9_ct31 : A9.ct 31 = some subC := rfl
theorem A9_ct23 : A9.ct 23 = some mulC := rfl
theorem A9_ct34 : A9.ct 34 = some mulC := rfl
theorem A9_ct26 : A9.ct 26 = some quoC := rfl
theorem A9_ct35 : A9.ct 35 = some quoC := rfl
theorem A9_ok : EnvOk Try.prog A9 := by
  refine ⟨fun f c h => ?_, fun f vf h => ?_, fun _ _ => rfl, by kernel_rfl⟩
  · simp only [A9] at h
    split at h
    · cases h; exact ⟨awake_ok, Try.f16, Try.func16, by kernel_rfl, by kernel_rfl⟩
    · cases h; exact ⟨check_ok, Try.f32, Try.func32, by kernel_rfl, by kernel_rfl⟩
    · cases h; exact ⟨rcheck_ok, Try.f33, Try.func33, by kernel_rfl, by kernel_rfl⟩
    · cases h; exact ⟨add_ok, Try.f24, Try.func24, by kernel_rfl, by kernel_rfl⟩
    · cases h; exact ⟨radd_ok, Try.f30, Try.func30, by kernel_rfl, by kernel_rfl⟩
    · cases h; exact ⟨sub_ok, Try.f25, Try.func25, by kernel_rfl, by kernel_rfl⟩
    · cases h; exact ⟨rsub_ok, Try.f31, Try.func31, by kernel_rfl, by kernel_rfl⟩
    · cases h; exact ⟨mul_ok, Try.f23, Try.func23, by kernel_rfl, by kernel_rfl⟩
    · cases h; exact ⟨rmul_ok, Try.f34, Try.func34, by kernel_rfl, by kernel_rfl⟩
    · cases h; exact ⟨quo_ok, Try.f26, Try.func26, by kernel_rfl, by kernel_rfl⟩
    · cases h; exact ⟨rdiv_ok, Try.f35, Try.func35, by kernel_rfl, by kernel_rfl⟩
    · cases h
  · cases h


def shI : List Sh := [.int .i64, .int .i64]
theorem two_of {c : List SV} (h : okSL shI c) : ∃ x y : Int, c = [.int .i64 x, .int .i64 y] := by
  obtain ⟨_, _, rfl, ⟨n1, rfl, _⟩, e1⟩ := okSL_cons_inv h
  obtain ⟨_, _, rfl, ⟨n2, rfl, _⟩, e2⟩ := okSL_cons_inv e1
  cases okSL_nil_inv e2
  exact ⟨n1, n2, rfl⟩

def law4 : List PSh := [⟨true, shI⟩, ⟨true, shI⟩]

theorem lawSums : (lawC law4).ok Try.prog 8 := by
  refine contract Try.func8 v8_is A9_ok 400 (lawC law4) fun args k h => ?_
  obtain ⟨ha, hk⟩ := h
  obtain ⟨_, _, rfl, h1, e1⟩ := okPL_cons_inv ha
  obtain ⟨cs, rfl, hcs⟩ := okP_agg_inv h1
  obtain ⟨_, _, rfl, h2, e2⟩ := okPL_cons_inv e1
  obtain ⟨ds, rfl, hds⟩ := okP_agg_inv h2
  cases okPL_nil_inv e2
  obtain ⟨x, y, rfl⟩ := two_of hcs
  obtain ⟨u, v, rfl⟩ := two_of hds
  refine ⟨[.agg [.int .i64 x, .int .i64 y], .agg [.int .i64 u, .int .i64 v]], ⟨leXL_le _ _ (leXL_self _) (by simp only [bndL_cons, bndL_nil, bnd_vs, bnd_int, and_self]), leXL_le _ _ (leXL_self _) (by simp only [bndL_cons, bndL_nil, bnd_vs, bnd_int, and_self]), trivial⟩, ?_⟩
  dsimp only [v8, A9_ct16, A9_ct32, A9_ct24, A9_ct25, A9_ct23, A9_ct26, A9_ct33, A9_ct30, A9_ct31, A9_ct34, A9_ct35, trueC, iv1C, addC, subC, mulC, quoC, iv2C, enc2, go_sem, Option.bind, Option.map, List.append_nil, Nat.beq, List.cons_append, List.nil_append, List.append_eq, List.map_cons, List.map_nil, ite_self, reduceIte]
  simp only [true_and, and_true, imp_self, implies_true, decide_eq_true_eq, decide_eq_false_iff_not, Nat.reduceAdd, Nat.reduceLeDiff, Bool.not_not, reduceCtorEq, false_imp_iff, Bool.not_eq_true', Bool.not_eq_false', Bool.false_eq_true, and_self, forall_const, ne_eq, not_false_eq_true, Nat.reduceEqDiff]
  have hk' : k (.bool true) [] := hk
  exact ⟨by decide, by decide, by decide, by decide, by decide, by decide, by decide, by decide, fun h => by simp at h, fun _ => ⟨by decide, by decide, by decide, by decide, by decide, by decide, by decide, by decide, ans_bool (by simpa using hk')⟩⟩
end Go.Proofs.Ytdognchniaojoaa

/- A law of spans, as it is given, without a condition. -/
set_option linter.all false
namespace Go.Proofs.Ytdognchniaojoaa
open Go Go.Vx Go.RowKit
set_option maxRecDepth 100000

theorem own7 : ownKnob Try.prog.godebug = none := by kernel_rfl
theorem laid7 : laidOutB Try.prog = true := by kernel_rfl

theorem spansSums_lifted (os : Os) (started : os.Started) (H : Type) (enc : TypeId × Value → H) :
    ReturnsInHanded {} Try.checked os 8 .any (Rows.spansSumsSpec.pre6 enc Try.prog Try.f8 Rows.spansSumsRow.domain false) (Rows.spansSumsSpec.post enc Try.prog Try.f8 false true false false) :=
  law_lifted (C := Try.checked) (tb := 4) own7 started (by kernel_rfl) Try.func8 laid7
    (ChangeSpec.witness6 (enc := enc) (C := Try.checked) false ⟨#[], #[.agg #[.int .i64 0, .int .i64 0], .agg #[.int .i64 0, .int .i64 0]], []⟩ 8 (by kernel_rfl) (by kernel_rfl) (by kernel_rfl) (by kernel_rfl))
    (by kernel_rfl) (by kernel_rfl) (by kernel_rfl) (by kernel_rfl) rfl (fun ds h => match ds, h with | [_, _], _ => ⟨rfl, rfl, rfl⟩) lawSums

theorem spansSums_holds : Rows.SpansSumsSaid :=
  OpenClaim.holds_of_wide 8 Try.f8 rfl rfl rfl rfl rfl rfl rfl ⟨rfl, rfl, rfl, rfl, rfl⟩ rfl rfl rfl rfl rfl (by kernel_rfl) Try.func8 (by kernel_rfl)
    (of_decide_eq_true (by kernel_rfl)) (by unfold Func.isWrapper; first | (rw [if_pos (by decide +kernel)]; kernel_rfl) | (rw [if_neg (by decide +kernel)]; exact ⟨rfl, rfl⟩))
    (fun os started H enc _ => spansSums_lifted os started H enc)

end Go.Proofs.Ytdognchniaojoaa

