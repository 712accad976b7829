/- Numbers by limbs, walked: Size, bit, double, Divide. -/
import Derived.Test.YtdognchniaojoaaR2
import Derived.Test.YtdognchniaojoaaN2
set_option linter.all false
namespace Go.Proofs.Ytdognchniaojoaa
open Go Go.Vx
set_option maxRecDepth 100000
set_option maxHeartbeats 4000000

def v77 : VF := { ntmps := 25, res := [.tmp 2], body :=
 (.seq (.region [⟨(some 2), none, .mov, [.cn (.int .i64 0)]⟩])
 (.seq (.seq (.region [⟨(some 5), none, .mov, [.tm 0]⟩,
  ⟨(some 6), none, .len, [.tm 5]⟩,
  ⟨(some 7), none, (.cmp .eql), [.tm 6, .cn (.int .i64 0)]⟩])
 (.cond (.tm 7) (.seq (.region [⟨(some 2), none, .mov, [.cn (.int .i64 0)]⟩])
 .ret)
  .skip))
 (.seq (.draw [] [⟨⟨(some 8), none, .mov, [.tm 0]⟩, []⟩,
  ⟨⟨(some 9), none, .len, [.tm 8]⟩, []⟩,
  ⟨⟨(some 10), none, (.ari .sub), [.tm 9, .cn (.int .i64 1)]⟩, []⟩,
  ⟨⟨(some 11), none, (.ari .mul), [.cn (.int .i64 32), .tm 10]⟩, []⟩,
  ⟨⟨(some 12), none, .mov, [.tm 0]⟩, []⟩,
  ⟨⟨(some 13), none, .mov, [.tm 0]⟩, []⟩,
  ⟨⟨(some 14), none, .len, [.tm 13]⟩, []⟩,
  ⟨⟨(some 15), none, (.ari .sub), [.tm 14, .cn (.int .i64 1)]⟩, []⟩,
  ⟨⟨(some 16), none, (.idxAddr 1), [.tm 12, .tm 15]⟩, []⟩,
  ⟨⟨(some 17), none, (.load false 1), [.tm 16]⟩, []⟩,
  ⟨⟨(some 3), none, .mov, [.tm 11]⟩, []⟩,
  ⟨⟨(some 4), none, .mov, [.tm 17]⟩, []⟩])
 (.seq (.block 0 (.loop (.seq (.seq (.region [⟨(some 18), none, .mov, [.tm 4]⟩,
  ⟨(some 19), none, (.cmp .gtr), [.tm 18, .cn (.int .u32 0)]⟩])
 (.cond (.tm 19) .skip
  (.exit 0)))
 (.block 1 (.seq (.region [⟨(some 20), none, .mov, [.tm 3]⟩,
  ⟨(some 21), none, (.ari .add), [.tm 20, .cn (.int .i64 1)]⟩,
  ⟨(some 3), none, .mov, [.tm 21]⟩])
 (.region [⟨(some 22), none, .mov, [.tm 4]⟩,
  ⟨(some 23), none, .quo, [.tm 22, .cn (.int .u32 2)]⟩,
  ⟨(some 4), none, .mov, [.tm 23]⟩]))))))
 (.seq (.region [⟨(some 24), none, .mov, [.tm 3]⟩,
  ⟨(some 2), none, .mov, [.tm 24]⟩])
 .ret))))) }
theorem v77_is : vfunc Try.prog Try.f77 = some v77 := by kernel_rfl
def v90 : VF := { ntmps := 14, res := [.tmp 4], body :=
 (.seq (.region [⟨(some 4), none, .mov, [.cn (.int .u32 0)]⟩])
 (.seq (.region [⟨(some 5), none, .mov, [.tm 0]⟩,
  ⟨(some 6), none, .mov, [.tm 1]⟩,
  ⟨(some 7), none, .quo, [.tm 6, .cn (.int .i64 32)]⟩,
  ⟨(some 8), none, (.idxAddr 1), [.tm 5, .tm 7]⟩,
  ⟨(some 9), none, (.load false 1), [.tm 8]⟩,
  ⟨(some 10), none, .mov, [.tm 1]⟩,
  ⟨(some 11), none, .rem, [.tm 10, .cn (.int .i64 32)]⟩,
  ⟨(some 12), none, .shr, [.tm 9, .tm 11]⟩,
  ⟨(some 13), none, (.bit .and), [.tm 12, .cn (.int .u32 1)]⟩,
  ⟨(some 4), none, .mov, [.tm 13]⟩])
 .ret)) }
theorem v90_is : vfunc Try.prog Try.f90 = some v90 := by kernel_rfl
def v94 : VF := { ntmps := 39, res := [.tmp 4], body :=
 (.seq (.region [⟨(some 4), none, .mov, [.cn .nil]⟩])
 (.seq (.region [⟨(some 7), none, .mov, [.tm 0]⟩,
  ⟨(some 8), none, .len, [.tm 7]⟩,
  ⟨(some 9), none, (.ari .add), [.tm 8, .cn (.int .i64 1)]⟩,
  ⟨(some 10), none, (.make 1 4 [(.int .u32 0)]), [.tm 9, .tm 9]⟩,
  ⟨(some 5), none, .mov, [.tm 10]⟩])
 (.seq (.seq (.region [⟨(some 6), none, .mov, [.cn (.int .i64 0)]⟩])
 (.block 0 (.loop (.seq (.seq (.region [⟨(some 11), none, .mov, [.tm 6]⟩,
  ⟨(some 12), none, .mov, [.tm 0]⟩,
  ⟨(some 13), none, .len, [.tm 12]⟩,
  ⟨(some 14), none, (.cmp .lss), [.tm 11, .tm 13]⟩])
 (.cond (.tm 14) .skip
  (.exit 0)))
 (.seq (.block 1 (.seq (.region [⟨(some 17), none, .mov, [.tm 5]⟩,
  ⟨(some 18), none, .mov, [.tm 6]⟩,
  ⟨(some 19), none, .mov, [.tm 0]⟩,
  ⟨(some 20), none, .mov, [.tm 6]⟩,
  ⟨(some 21), none, (.idxAddr 1), [.tm 19, .tm 20]⟩,
  ⟨(some 22), none, (.load false 1), [.tm 21]⟩,
  ⟨(some 23), none, .shl, [.tm 22, .cn (.int .u64 1)]⟩,
  ⟨(some 24), none, .mov, [.tm 1]⟩,
  ⟨(some 25), none, (.bit .or), [.tm 23, .tm 24]⟩,
  ⟨(some 26), none, (.idxAddr 1), [.tm 17, .tm 18]⟩,
  ⟨none, none, (.store 1), [.tm 26, .tm 25]⟩])
 (.region [⟨(some 27), none, .mov, [.tm 0]⟩,
  ⟨(some 28), none, .mov, [.tm 6]⟩,
  ⟨(some 29), none, (.idxAddr 1), [.tm 27, .tm 28]⟩,
  ⟨(some 30), none, (.load false 1), [.tm 29]⟩,
  ⟨(some 31), none, .shr, [.tm 30, .cn (.int .u64 31)]⟩,
  ⟨(some 1), none, .mov, [.tm 31]⟩])))
 (.region [⟨(some 15), none, .mov, [.tm 6]⟩,
  ⟨(some 16), none, (.ari .add), [.tm 15, .cn (.int .i64 1)]⟩,
  ⟨(some 6), none, .mov, [.tm 16]⟩]))))))
 (.seq (.region [⟨(some 32), none, .mov, [.tm 5]⟩,
  ⟨(some 33), none, .mov, [.tm 0]⟩,
  ⟨(some 34), none, .len, [.tm 33]⟩,
  ⟨(some 35), none, .mov, [.tm 1]⟩,
  ⟨(some 36), none, (.idxAddr 1), [.tm 32, .tm 34]⟩,
  ⟨none, none, (.store 1), [.tm 36, .tm 35]⟩])
 (.seq (.region [⟨(some 37), none, .mov, [.tm 5]⟩,
  ⟨(some 38), none, (.call 80), [.tm 37]⟩,
  ⟨(some 4), none, .mov, [.tm 38]⟩])
 .ret))))) }
theorem v94_is : vfunc Try.prog Try.f94 = some v94 := by kernel_rfl
def v87 : VF := { ntmps := 47, res := [.tmp 4, .tmp 5], body :=
 (.seq (.region [⟨(some 4), none, .mov, [.cn .nil]⟩,
  ⟨(some 5), none, .mov, [.cn .nil]⟩])
 (.seq (.region [⟨(some 9), none, .mov, [.tm 0]⟩,
  ⟨(some 10), none, .len, [.tm 9]⟩,
  ⟨(some 11), none, (.make 1 4 [(.int .u32 0)]), [.tm 10, .tm 10]⟩,
  ⟨(some 6), none, .mov, [.tm 11]⟩])
 (.seq (.region [⟨(some 7), none, .mov, [.cn .nil]⟩])
 (.seq (.seq (.region [⟨(some 12), none, .mov, [.tm 0]⟩,
  ⟨(some 13), none, (.call 77), [.tm 12]⟩,
  ⟨(some 14), none, (.ari .sub), [.tm 13, .cn (.int .i64 1)]⟩,
  ⟨(some 8), none, .mov, [.tm 14]⟩])
 (.block 0 (.loop (.seq (.seq (.region [⟨(some 15), none, .mov, [.tm 8]⟩,
  ⟨(some 16), none, (.cmp .geq), [.tm 15, .cn (.int .i64 0)]⟩])
 (.cond (.tm 16) .skip
  (.exit 0)))
 (.seq (.block 1 (.seq (.region [⟨(some 19), none, .mov, [.tm 7]⟩,
  ⟨(some 20), none, .mov, [.tm 0]⟩,
  ⟨(some 21), none, .mov, [.tm 8]⟩,
  ⟨(some 22), none, (.call 90), [.tm 20, .tm 21]⟩,
  ⟨(some 23), none, (.call 94), [.tm 19, .tm 22]⟩,
  ⟨(some 7), none, .mov, [.tm 23]⟩])
 (.seq (.region [⟨(some 24), none, .mov, [.tm 7]⟩,
  ⟨(some 25), none, .mov, [.tm 1]⟩,
  ⟨(some 26), none, (.call 58), [.tm 24, .tm 25]⟩,
  ⟨(some 27), none, (.cmp .geq), [.tm 26, .cn (.int .i64 0)]⟩])
 (.cond (.tm 27) (.seq (.region [⟨(some 28), none, .mov, [.tm 7]⟩,
  ⟨(some 29), none, .mov, [.tm 1]⟩,
  ⟨(some 30), none, (.call 95), [.tm 28, .tm 29]⟩,
  ⟨(some 7), none, .mov, [.tm 30]⟩])
 (.draw [] [⟨⟨(some 31), none, .mov, [.tm 6]⟩, []⟩,
  ⟨⟨(some 32), none, .mov, [.tm 8]⟩, []⟩,
  ⟨⟨(some 33), none, .quo, [.tm 32, .cn (.int .i64 32)]⟩, []⟩,
  ⟨⟨(some 34), none, .mov, [.tm 6]⟩, []⟩,
  ⟨⟨(some 35), none, .mov, [.tm 8]⟩, []⟩,
  ⟨⟨(some 36), none, .quo, [.tm 35, .cn (.int .i64 32)]⟩, []⟩,
  ⟨⟨(some 37), none, (.idxAddr 1), [.tm 34, .tm 36]⟩, []⟩,
  ⟨⟨(some 38), none, (.load false 1), [.tm 37]⟩, []⟩,
  ⟨⟨(some 39), none, .mov, [.tm 8]⟩, []⟩,
  ⟨⟨(some 40), none, .rem, [.tm 39, .cn (.int .i64 32)]⟩, []⟩,
  ⟨⟨(some 41), none, .shl, [.cn (.int .u32 1), .tm 40]⟩, []⟩,
  ⟨⟨(some 42), none, (.bit .or), [.tm 38, .tm 41]⟩, []⟩,
  ⟨⟨(some 43), none, (.idxAddr 1), [.tm 31, .tm 33]⟩, []⟩,
  ⟨⟨none, none, (.store 1), [.tm 43, .tm 42]⟩, []⟩]))
  .skip))))
 (.region [⟨(some 17), none, .mov, [.tm 8]⟩,
  ⟨(some 18), none, (.ari .sub), [.tm 17, .cn (.int .i64 1)]⟩,
  ⟨(some 8), none, .mov, [.tm 18]⟩]))))))
 (.seq (.region [⟨(some 44), none, .mov, [.tm 6]⟩,
  ⟨(some 45), none, (.call 80), [.tm 44]⟩,
  ⟨(some 46), none, .mov, [.tm 7]⟩,
  ⟨(some 4), none, .mov, [.tm 45]⟩,
  ⟨(some 5), none, .mov, [.tm 46]⟩])
 .ret))))) }
theorem v87_is : vfunc Try.prog Try.f87 = some v87 := by kernel_rfl


def sizeC : Ctr := { alias := false, of := fun l => match l with
  | [.vs _ _ n sz get] => .ex Nat fun a => .pre (padP a n sz get ∧ n = nl a) (.fin (.int .i64 (bitsN a)) [])
  | _ => noC }
def bitC : Ctr := { alias := false, of := fun l => match l with
  | [.vs _ _ n sz get, .int .i64 i] => .ex Nat fun a => .pre (padP a n sz get ∧ 0 ≤ i ∧ i < 32 * n) (.fin (.int .u32 (bitN a i.toNat)) [])
  | _ => noC }
def doubleC : Ctr := { alias := false, of := fun l => match l with
  | [.vs _ _ n sz get, .int .u32 x] => .ex Nat fun a => .pre (padP a n sz get ∧ 0 ≤ x ∧ x ≤ 1 ∧ n ≤ 99999) (.fin (natS false (2 * a + x.toNat)) [])
  | _ => noC }
def divideC : Ctr := { alias := false, of := fun l => match l with
  | [.vs _ _ n sz get, .vs _ _ m sz' get'] => .ex Nat fun a => .ex Nat fun b => .pre (padP a n sz get ∧ n = nl a ∧ padP b m sz' get' ∧ 0 < b ∧ m ≤ 9999 ∧ n ≤ 9999) (.all Bool fun z => .fin (.tup [natS false (a / b), natS z (a % b)]) [])
  | _ => noC }

theorem size_ok : sizeC.ok Try.prog 77 := by
  refine contract Try.func77 v77_is R1_ok 200 sizeC fun args k h => ?_
  simp only [sizeC] at h
  split at h
  · rename_i t1 z1 n sz get
    obtain ⟨a, ⟨⟨rfl, hn, ha, hg⟩, rfl⟩, h⟩ := h
    refine ⟨[.vs t1 z1 (nl a) 1 (fun k => [.int .u32 (dig a k)])], by simpa [leL, le] using hg, ?_⟩
    dsimp only [v77, r_end, r_end1, r_nil, r_op, r_opg, r_runOp, r_op0, r_yld0, r_yld1, r_y, r_rbeg, r_rend, r_rend1, r_rfrm, r_rfrm1, r_range, r_rangeK, r_rangeE, r_draw, r_dnil, r_dop, r_dopg, r_dplq, r_dplh, r_dq, r_dq0, r_dcl1, r_dcl0, r_dct1, r_dct0, r_dgd, r_dgq1, r_dgq0, r_dctG, r_op1, r_eff, r_eff0, r_call, r_call0, r_inl, r_g, r_gq, r_gc, r_effg, r_effg0, r_callg, r_callg0, r_fin, r_pre, r_imp, r_all, r_ex, r_fing, r_preg, r_exg, r_inBlock, r_inLoop, r_frame, r_frame1, r_skip, r_stuck, r_region, r_seq, r_cond, r_cond1, r_block, r_exit, r_exit1, r_exit2, r_ret, r_loop, s_args0, s_args1, s_xt, s_xc, padL, blankL, callee, callArgs, eff, ctOf, getL, setL, S.put, S.upd, unopts, unopt, unoptsO, unoptsB, lazyO, guardOf, gbool, eMov, eNot, eNeg, eConv, eExt, eLenArr, eLen, eLenStr, eEqb, eEqv, allEq, eNil, negIf, eBool2, eCmp, eAri, ari, eBit, eDiv, eSh, eMinMax, foldMin, foldMax, kEq, pure1, cmpB, VO.quiet, resVals, resVal, tupled, popRet, popTo, cond, Option.bind, Option.map, eNew, eBox, asCells, lenH, snocH, eFieldAddr, eField, eLoad, cellsAt, getH, setH, dropL, takeL, mkAgg, lenL, lenS, shift, shiftL, shiftH, viewN, viewL, view, andT, junks, List.append_nil, Nat.beq, eIdxAddr, eIdxArr, idxN_0, idxN_1, idxN_2, idxN_3, eIndex, eStore, storeAt, spliceL, ones, one, eSlice, eSliceArr, bounds, subLo_z, addLo_z, subLo_one, addLo_one, eMake, eAppend, readS, repL, buildCells, chunk, purgeL, purgeLL, purgeH, purge, refs, refsL, List.cons_append, List.nil_append, wrOps, wrAl, wrDops, wrC, junkAt, putAll, putHs, headOf, headK, keepG, List.append_eq, headX, chkP, apartP, apartB, blk, strip, runAl, AL.ho, yld, putPs, lenN, findR, notRound, jumpK, jumpPT, jcode, List.map_cons, List.map_nil, ite_self, reduceIte]
    simp only [true_and, and_true, imp_self, implies_true, decide_eq_true_eq, decide_eq_false_iff_not, Nat.reduceAdd, Nat.reduceLeDiff, Bool.not_not, reduceCtorEq, false_imp_iff, Bool.not_eq_true', Bool.not_eq_false', Bool.false_eq_true, and_self, forall_const, ne_eq, not_false_eq_true, Nat.reduceEqDiff]
    refine ⟨fun h0 => ans_int ?_, fun h0 => ?_⟩
    · have : a = 0 := nl_eq0.1 (by omega)
      subst this
      exact h
    · obtain ⟨m, hm⟩ : ∃ m, nl a = m + 1 := ⟨nl a - 1, by omega⟩
      have w1 : IntKind.i64.wrap ((nl a : Int) - 1) = (m : Int) := by rw [IntWalk.i64_in _ (by omega)]; omega
      rw [w1]
      simp only [Int.toNat_natCast]
      refine ⟨⟨by omega, by omega⟩, ?_⟩
      refine Loop.keep [3, 0] (Nat × Nat) (fun x => [(3, .int .i64 x.1), (4, .int .u32 x.2)]) (fun _ => []) [] (fun x => x.1 + bitsN x.2 = bitsN a ∧ x.2 < 4294967296) (fun x => bitsN x.2) ?_ ?_
      · refine ⟨(32 * m, dig a m), ⟨(bitsN_top hm).symm, dig_lt _ _⟩, ?_⟩
        dsimp only [r_end, r_end1, r_nil, r_op, r_opg, r_runOp, r_op0, r_yld0, r_yld1, r_y, r_rbeg, r_rend, r_rend1, r_rfrm, r_rfrm1, r_range, r_rangeK, r_rangeE, r_draw, r_dnil, r_dop, r_dopg, r_dplq, r_dplh, r_dq, r_dq0, r_dcl1, r_dcl0, r_dct1, r_dct0, r_dgd, r_dgq1, r_dgq0, r_dctG, r_op1, r_eff, r_eff0, r_call, r_call0, r_inl, r_g, r_gq, r_gc, r_effg, r_effg0, r_callg, r_callg0, r_fin, r_pre, r_imp, r_all, r_ex, r_fing, r_preg, r_exg, r_inBlock, r_inLoop, r_frame, r_frame1, r_skip, r_stuck, r_region, r_seq, r_cond, r_cond1, r_block, r_exit, r_exit1, r_exit2, r_ret, r_loop, s_args0, s_args1, s_xt, s_xc, padL, blankL, callee, callArgs, eff, ctOf, getL, setL, S.put, S.upd, unopts, unopt, unoptsO, unoptsB, lazyO, guardOf, gbool, eMov, eNot, eNeg, eConv, eExt, eLenArr, eLen, eLenStr, eEqb, eEqv, allEq, eNil, negIf, eBool2, eCmp, eAri, ari, eBit, eDiv, eSh, eMinMax, foldMin, foldMax, kEq, pure1, cmpB, VO.quiet, resVals, resVal, tupled, popRet, popTo, cond, Option.bind, Option.map, eNew, eBox, asCells, lenH, snocH, eFieldAddr, eField, eLoad, cellsAt, getH, setH, dropL, takeL, mkAgg, lenL, lenS, shift, shiftL, shiftH, viewN, viewL, view, andT, junks, List.append_nil, Nat.beq, eIdxAddr, eIdxArr, idxN_0, idxN_1, idxN_2, idxN_3, eIndex, eStore, storeAt, spliceL, ones, one, eSlice, eSliceArr, bounds, subLo_z, addLo_z, subLo_one, addLo_one, eMake, eAppend, readS, repL, buildCells, chunk, purgeL, purgeLL, purgeH, purge, refs, refsL, List.cons_append, List.nil_append, wrOps, wrAl, wrDops, wrC, junkAt, putAll, putHs, headOf, headK, keepG, List.append_eq, headX, chkP, apartP, apartB, blk, strip, runAl, AL.ho, yld, putPs, lenN, findR, notRound, jumpK, jumpPT, jcode, List.map_cons, List.map_nil, ite_self, reduceIte]
        simp only [leS_mk, leL_cons, leL_nil, le_junk, le_int, le_bool, le_nil, leLL_nil, leLL_cons, leH_cons, leH_nil, leH1_box, leH1_own, leH1_gone, le_vs, le_agg, le_tup, le_ptr, le_own, le_xp, le_fn, le_opt, le_val, le_elem, le_nil_own, le_nil_vs, leH_ghost, leL_chunk, leXL_id, bnd_int, bnd_bool, bnd_val, bnd_nil, bnd_junk, bnd_vs, bnd_xp, bnd_agg, bnd_tup, bnd_ptr, bnd_own, bnd_elem, bnd_fn, bnd_iface, bnd_opt, bndL_nil, bndL_cons, lenH_cons, lenH_nil, imp_self, implies_true, true_and, and_true]
        rw [IntWalk.i64_in _ (by omega)]
        simp
      · rintro ⟨c, t⟩ ⟨hc, ht⟩
        dsimp only at hc ht
        dsimp only [r_end, r_end1, r_nil, r_op, r_opg, r_runOp, r_op0, r_yld0, r_yld1, r_y, r_rbeg, r_rend, r_rend1, r_rfrm, r_rfrm1, r_range, r_rangeK, r_rangeE, r_draw, r_dnil, r_dop, r_dopg, r_dplq, r_dplh, r_dq, r_dq0, r_dcl1, r_dcl0, r_dct1, r_dct0, r_dgd, r_dgq1, r_dgq0, r_dctG, r_op1, r_eff, r_eff0, r_call, r_call0, r_inl, r_g, r_gq, r_gc, r_effg, r_effg0, r_callg, r_callg0, r_fin, r_pre, r_imp, r_all, r_ex, r_fing, r_preg, r_exg, r_inBlock, r_inLoop, r_frame, r_frame1, r_skip, r_stuck, r_region, r_seq, r_cond, r_cond1, r_block, r_exit, r_exit1, r_exit2, r_ret, r_loop, s_args0, s_args1, s_xt, s_xc, padL, blankL, callee, callArgs, eff, ctOf, getL, setL, S.put, S.upd, unopts, unopt, unoptsO, unoptsB, lazyO, guardOf, gbool, eMov, eNot, eNeg, eConv, eExt, eLenArr, eLen, eLenStr, eEqb, eEqv, allEq, eNil, negIf, eBool2, eCmp, eAri, ari, eBit, eDiv, eSh, eMinMax, foldMin, foldMax, kEq, pure1, cmpB, VO.quiet, resVals, resVal, tupled, popRet, popTo, cond, Option.bind, Option.map, eNew, eBox, asCells, lenH, snocH, eFieldAddr, eField, eLoad, cellsAt, getH, setH, dropL, takeL, mkAgg, lenL, lenS, shift, shiftL, shiftH, viewN, viewL, view, andT, junks, List.append_nil, Nat.beq, eIdxAddr, eIdxArr, idxN_0, idxN_1, idxN_2, idxN_3, eIndex, eStore, storeAt, spliceL, ones, one, eSlice, eSliceArr, bounds, subLo_z, addLo_z, subLo_one, addLo_one, eMake, eAppend, readS, repL, buildCells, chunk, purgeL, purgeLL, purgeH, purge, refs, refsL, List.cons_append, List.nil_append, wrOps, wrAl, wrDops, wrC, junkAt, putAll, putHs, headOf, headK, keepG, List.append_eq, headX, chkP, apartP, apartB, blk, strip, runAl, AL.ho, yld, putPs, lenN, findR, notRound, jumpK, jumpPT, jcode, List.map_cons, List.map_nil, ite_self, reduceIte]
        simp only [true_and, and_true, imp_self, implies_true, decide_eq_true_eq, decide_eq_false_iff_not, Nat.reduceAdd, Nat.reduceLeDiff, Bool.not_not, reduceCtorEq, false_imp_iff, Bool.not_eq_true', Bool.not_eq_false', Bool.false_eq_true, and_self, forall_const, ne_eq, not_false_eq_true, Nat.reduceEqDiff]
        have hbl : bitsN a ≤ 32 * 100000 := Nat.le_trans (bitsN_nl a) (by omega)
        refine ⟨fun hpos => ?_, fun hz => ans_int ?_⟩
        · have hh := bitsN_half (a := t) (by omega)
          refine ⟨by decide, (c + 1, t / 2), ⟨by simp only; omega, by simp only; omega⟩, by simp only; omega, ?_⟩
          have e2 : IntKind.u32.wrap ((t : Int).tdiv 2) = ((t / 2 : Nat) : Int) := by
            have : (t : Int).tdiv 2 = ((t / 2 : Nat) : Int) := IntWalk.up_tdiv (y := 2) rfl rfl
            rw [this]; exact u3_nat (by omega)
          rw [e2, IntWalk.i64_in _ (by omega)]
          simp only [leS_mk, leL_cons, leL_nil, le_junk, le_int, le_bool, le_nil, leLL_nil, leLL_cons, leH_cons, leH_nil, leH1_box, leH1_own, leH1_gone, le_vs, le_agg, le_tup, le_ptr, le_own, le_xp, le_fn, le_opt, le_val, le_elem, le_nil_own, le_nil_vs, leH_ghost, leL_chunk, leXL_id, bnd_int, bnd_bool, bnd_val, bnd_nil, bnd_junk, bnd_vs, bnd_xp, bnd_agg, bnd_tup, bnd_ptr, bnd_own, bnd_elem, bnd_fn, bnd_iface, bnd_opt, bndL_nil, bndL_cons, lenH_cons, lenH_nil, imp_self, implies_true, true_and, and_true]
          simp
        · obtain rfl : t = 0 := by omega
          rw [bitsN_0, Nat.add_zero] at hc
          rw [← hc] at h
          exact h
  · exact h.1.elim

theorem bit_ok : bitC.ok Try.prog 90 := by
  refine contract Try.func90 v90_is R1_ok 200 bitC fun args k h => ?_
  simp only [bitC] at h
  split at h
  · rename_i t1 z1 n sz get i
    obtain ⟨a, ⟨⟨rfl, hn, ha, hg⟩, h0, h1⟩, h⟩ := h
    obtain ⟨i, rfl⟩ := Int.eq_ofNat_of_zero_le h0
    refine ⟨[.vs t1 z1 n 1 (fun k => [.int .u32 (dig a k)]), .int .i64 i], ⟨by simpa [le] using hg, ⟨rfl, rfl⟩, trivial⟩, ?_⟩
    dsimp only [v90, bitI, r_end, r_end1, r_nil, r_op, r_opg, r_runOp, r_op0, r_yld0, r_yld1, r_y, r_rbeg, r_rend, r_rend1, r_rfrm, r_rfrm1, r_range, r_rangeK, r_rangeE, r_draw, r_dnil, r_dop, r_dopg, r_dplq, r_dplh, r_dq, r_dq0, r_dcl1, r_dcl0, r_dct1, r_dct0, r_dgd, r_dgq1, r_dgq0, r_dctG, r_op1, r_eff, r_eff0, r_call, r_call0, r_inl, r_g, r_gq, r_gc, r_effg, r_effg0, r_callg, r_callg0, r_fin, r_pre, r_imp, r_all, r_ex, r_fing, r_preg, r_exg, r_inBlock, r_inLoop, r_frame, r_frame1, r_skip, r_stuck, r_region, r_seq, r_cond, r_cond1, r_block, r_exit, r_exit1, r_exit2, r_ret, r_loop, s_args0, s_args1, s_xt, s_xc, padL, blankL, callee, callArgs, eff, ctOf, getL, setL, S.put, S.upd, unopts, unopt, unoptsO, unoptsB, lazyO, guardOf, gbool, eMov, eNot, eNeg, eConv, eExt, eLenArr, eLen, eLenStr, eEqb, eEqv, allEq, eNil, negIf, eBool2, eCmp, eAri, ari, eBit, eDiv, eSh, eMinMax, foldMin, foldMax, kEq, pure1, cmpB, VO.quiet, resVals, resVal, tupled, popRet, popTo, cond, Option.bind, Option.map, eNew, eBox, asCells, lenH, snocH, eFieldAddr, eField, eLoad, cellsAt, getH, setH, dropL, takeL, mkAgg, lenL, lenS, shift, shiftL, shiftH, viewN, viewL, view, andT, junks, List.append_nil, Nat.beq, eIdxAddr, eIdxArr, idxN_0, idxN_1, idxN_2, idxN_3, eIndex, eStore, storeAt, spliceL, ones, one, eSlice, eSliceArr, bounds, subLo_z, addLo_z, subLo_one, addLo_one, eMake, eAppend, readS, repL, buildCells, chunk, purgeL, purgeLL, purgeH, purge, refs, refsL, List.cons_append, List.nil_append, wrOps, wrAl, wrDops, wrC, junkAt, putAll, putHs, headOf, headK, keepG, List.append_eq, headX, chkP, apartP, apartB, blk, strip, runAl, AL.ho, yld, putPs, lenN, findR, notRound, jumpK, jumpPT, jcode, List.map_cons, List.map_nil, ite_self, reduceIte]
    simp only [true_and, and_true, imp_self, implies_true, decide_eq_true_eq, decide_eq_false_iff_not, Nat.reduceAdd, Nat.reduceLeDiff, Bool.not_not, reduceCtorEq, false_imp_iff, Bool.not_eq_true', Bool.not_eq_false', Bool.false_eq_true, and_self, forall_const, ne_eq, not_false_eq_true, Nat.reduceEqDiff]
    have e1 : IntKind.i64.wrap ((i : Int).tdiv 32) = ((i / 32 : Nat) : Int) := by
      have : (i : Int).tdiv 32 = ((i / 32 : Nat) : Int) := IntWalk.up_tdiv (y := 32) rfl rfl
      rw [this, IntWalk.i64_in _ (by omega)]
    have e2 : (i : Int).tmod 32 = ((i % 32 : Nat) : Int) := IntWalk.up_tmod (y := 32) rfl rfl
    rw [e1, e2]
    simp only [Int.toNat_natCast]
    refine ⟨by decide, ⟨by omega, by omega⟩, by decide, by omega, ans_int ?_⟩
    have e3 : ((dig a (i / 32) : Nat) : Int).fdiv (2 ^ min (i % 32) IntKind.u32.bits) = ((dig a (i / 32) / 2 ^ (i % 32) : Nat) : Int) := by
      have : min (i % 32) IntKind.u32.bits = i % 32 := by show min (i % 32) 32 = _; omega
      rw [this, Int.fdiv_eq_ediv_of_nonneg _ (Int.le_of_lt (Int.pow_pos (by decide)))]
      simp
    rw [e3]
    have := and_one (dig a (i / 32) / 2 ^ (i % 32))
    rw [show IntKind.u32.bits = 32 from rfl, this, ← bitN_dig]
    exact h
  · exact h.1.elim

theorem double_ok : doubleC.ok Try.prog 94 := by
  refine contract Try.func94 v94_is R1_ok 200 doubleC fun args k h => ?_
  simp only [doubleC] at h
  split at h
  · rename_i t1 z1 n sz get x
    obtain ⟨a, ⟨⟨rfl, hn, ha, hg⟩, h0, h1, hn9⟩, h⟩ := h
    obtain ⟨x, rfl⟩ := Int.eq_ofNat_of_zero_le h0
    have hx : x ≤ 1 := by omega
    refine ⟨[.vs t1 z1 n 1 (fun k => [.int .u32 (dig a k)]), .int .u32 x], ⟨by simpa [le] using hg, ⟨rfl, rfl⟩, trivial⟩, ?_⟩
    dsimp only [v94, r_end, r_end1, r_nil, r_op, r_opg, r_runOp, r_op0, r_yld0, r_yld1, r_y, r_rbeg, r_rend, r_rend1, r_rfrm, r_rfrm1, r_range, r_rangeK, r_rangeE, r_draw, r_dnil, r_dop, r_dopg, r_dplq, r_dplh, r_dq, r_dq0, r_dcl1, r_dcl0, r_dct1, r_dct0, r_dgd, r_dgq1, r_dgq0, r_dctG, r_op1, r_eff, r_eff0, r_call, r_call0, r_inl, r_g, r_gq, r_gc, r_effg, r_effg0, r_callg, r_callg0, r_fin, r_pre, r_imp, r_all, r_ex, r_fing, r_preg, r_exg, r_inBlock, r_inLoop, r_frame, r_frame1, r_skip, r_stuck, r_region, r_seq, r_cond, r_cond1, r_block, r_exit, r_exit1, r_exit2, r_ret, r_loop, s_args0, s_args1, s_xt, s_xc, padL, blankL, callee, callArgs, eff, ctOf, getL, setL, S.put, S.upd, unopts, unopt, unoptsO, unoptsB, lazyO, guardOf, gbool, eMov, eNot, eNeg, eConv, eExt, eLenArr, eLen, eLenStr, eEqb, eEqv, allEq, eNil, negIf, eBool2, eCmp, eAri, ari, eBit, eDiv, eSh, eMinMax, foldMin, foldMax, kEq, pure1, cmpB, VO.quiet, resVals, resVal, tupled, popRet, popTo, cond, Option.bind, Option.map, eNew, eBox, asCells, lenH, snocH, eFieldAddr, eField, eLoad, cellsAt, getH, setH, dropL, takeL, mkAgg, lenL, lenS, shift, shiftL, shiftH, viewN, viewL, view, andT, junks, List.append_nil, Nat.beq, eIdxAddr, eIdxArr, idxN_0, idxN_1, idxN_2, idxN_3, eIndex, eStore, storeAt, spliceL, ones, one, eSlice, eSliceArr, bounds, subLo_z, addLo_z, subLo_one, addLo_one, eMake, eAppend, readS, repL, buildCells, chunk, purgeL, purgeLL, purgeH, purge, refs, refsL, List.cons_append, List.nil_append, wrOps, wrAl, wrDops, wrC, junkAt, putAll, putHs, headOf, headK, keepG, List.append_eq, headX, chkP, apartP, apartB, blk, strip, runAl, AL.ho, yld, putPs, lenN, findR, notRound, jumpK, jumpPT, jcode, List.map_cons, List.map_nil, ite_self, reduceIte]
    simp only [true_and, and_true, imp_self, implies_true, decide_eq_true_eq, decide_eq_false_iff_not, Nat.reduceAdd, Nat.reduceLeDiff, Bool.not_not, reduceCtorEq, false_imp_iff, Bool.not_eq_true', Bool.not_eq_false', Bool.false_eq_true, and_self, forall_const, ne_eq, not_false_eq_true, Nat.reduceEqDiff]
    have en : IntKind.i64.wrap ((n : Int) + 1) = ((n + 1 : Nat) : Int) := by rw [IntWalk.i64_in _ (by omega)]; omega
    rw [en]
    simp only [Int.toNat_natCast]
    refine ⟨⟨by decide, by omega, by unfold capOk; omega⟩, ?_⟩
    refine Loop.keep [0, 4] Nat (fun i => [(1, .int .u32 (dcy a x i)), (6, .int .i64 i)]) (fun i => [(0, .own false 1 (n + 1) (fun k => [.int .u32 (dig ((2 * a + x) % 4294967296 ^ i) k)]))]) [] (fun i => i ≤ n) (fun i => n - i) ?_ ?_
    · refine ⟨0, by omega, ?_⟩
      dsimp only [r_end, r_end1, r_nil, r_op, r_opg, r_runOp, r_op0, r_yld0, r_yld1, r_y, r_rbeg, r_rend, r_rend1, r_rfrm, r_rfrm1, r_range, r_rangeK, r_rangeE, r_draw, r_dnil, r_dop, r_dopg, r_dplq, r_dplh, r_dq, r_dq0, r_dcl1, r_dcl0, r_dct1, r_dct0, r_dgd, r_dgq1, r_dgq0, r_dctG, r_op1, r_eff, r_eff0, r_call, r_call0, r_inl, r_g, r_gq, r_gc, r_effg, r_effg0, r_callg, r_callg0, r_fin, r_pre, r_imp, r_all, r_ex, r_fing, r_preg, r_exg, r_inBlock, r_inLoop, r_frame, r_frame1, r_skip, r_stuck, r_region, r_seq, r_cond, r_cond1, r_block, r_exit, r_exit1, r_exit2, r_ret, r_loop, s_args0, s_args1, s_xt, s_xc, padL, blankL, callee, callArgs, eff, ctOf, getL, setL, S.put, S.upd, unopts, unopt, unoptsO, unoptsB, lazyO, guardOf, gbool, eMov, eNot, eNeg, eConv, eExt, eLenArr, eLen, eLenStr, eEqb, eEqv, allEq, eNil, negIf, eBool2, eCmp, eAri, ari, eBit, eDiv, eSh, eMinMax, foldMin, foldMax, kEq, pure1, cmpB, VO.quiet, resVals, resVal, tupled, popRet, popTo, cond, Option.bind, Option.map, eNew, eBox, asCells, lenH, snocH, eFieldAddr, eField, eLoad, cellsAt, getH, setH, dropL, takeL, mkAgg, lenL, lenS, shift, shiftL, shiftH, viewN, viewL, view, andT, junks, List.append_nil, Nat.beq, eIdxAddr, eIdxArr, idxN_0, idxN_1, idxN_2, idxN_3, eIndex, eStore, storeAt, spliceL, ones, one, eSlice, eSliceArr, bounds, subLo_z, addLo_z, subLo_one, addLo_one, eMake, eAppend, readS, repL, buildCells, chunk, purgeL, purgeLL, purgeH, purge, refs, refsL, List.cons_append, List.nil_append, wrOps, wrAl, wrDops, wrC, junkAt, putAll, putHs, headOf, headK, keepG, List.append_eq, headX, chkP, apartP, apartB, blk, strip, runAl, AL.ho, yld, putPs, lenN, findR, notRound, jumpK, jumpPT, jcode, List.map_cons, List.map_nil, ite_self, reduceIte]
      simp only [leS_mk, leL_cons, leL_nil, le_junk, le_int, le_bool, le_nil, leLL_nil, leLL_cons, leH_cons, leH_nil, leH1_box, leH1_own, leH1_gone, le_vs, le_agg, le_tup, le_ptr, le_own, le_xp, le_fn, le_opt, le_val, le_elem, le_nil_own, le_nil_vs, leH_ghost, leL_chunk, leXL_id, bnd_int, bnd_bool, bnd_val, bnd_nil, bnd_junk, bnd_vs, bnd_xp, bnd_agg, bnd_tup, bnd_ptr, bnd_own, bnd_elem, bnd_fn, bnd_iface, bnd_opt, bndL_nil, bndL_cons, lenH_cons, lenH_nil, imp_self, implies_true, true_and, and_true]
      simp [Nat.mod_one, dig_zero, leL, le, dcy_0]
    · rintro i hi
      dsimp only [R1_ct80, trimC, natS, bitI, Int.toNat_natCast, r_end, r_end1, r_nil, r_op, r_opg, r_runOp, r_op0, r_yld0, r_yld1, r_y, r_rbeg, r_rend, r_rend1, r_rfrm, r_rfrm1, r_range, r_rangeK, r_rangeE, r_draw, r_dnil, r_dop, r_dopg, r_dplq, r_dplh, r_dq, r_dq0, r_dcl1, r_dcl0, r_dct1, r_dct0, r_dgd, r_dgq1, r_dgq0, r_dctG, r_op1, r_eff, r_eff0, r_call, r_call0, r_inl, r_g, r_gq, r_gc, r_effg, r_effg0, r_callg, r_callg0, r_fin, r_pre, r_imp, r_all, r_ex, r_fing, r_preg, r_exg, r_inBlock, r_inLoop, r_frame, r_frame1, r_skip, r_stuck, r_region, r_seq, r_cond, r_cond1, r_block, r_exit, r_exit1, r_exit2, r_ret, r_loop, s_args0, s_args1, s_xt, s_xc, padL, blankL, callee, callArgs, eff, ctOf, getL, setL, S.put, S.upd, unopts, unopt, unoptsO, unoptsB, lazyO, guardOf, gbool, eMov, eNot, eNeg, eConv, eExt, eLenArr, eLen, eLenStr, eEqb, eEqv, allEq, eNil, negIf, eBool2, eCmp, eAri, ari, eBit, eDiv, eSh, eMinMax, foldMin, foldMax, kEq, pure1, cmpB, VO.quiet, resVals, resVal, tupled, popRet, popTo, cond, Option.bind, Option.map, eNew, eBox, asCells, lenH, snocH, eFieldAddr, eField, eLoad, cellsAt, getH, setH, dropL, takeL, mkAgg, lenL, lenS, shift, shiftL, shiftH, viewN, viewL, view, andT, junks, List.append_nil, Nat.beq, eIdxAddr, eIdxArr, idxN_0, idxN_1, idxN_2, idxN_3, eIndex, eStore, storeAt, spliceL, ones, one, eSlice, eSliceArr, bounds, subLo_z, addLo_z, subLo_one, addLo_one, eMake, eAppend, readS, repL, buildCells, chunk, purgeL, purgeLL, purgeH, purge, refs, refsL, List.cons_append, List.nil_append, wrOps, wrAl, wrDops, wrC, junkAt, putAll, putHs, headOf, headK, keepG, List.append_eq, headX, chkP, apartP, apartB, blk, strip, runAl, AL.ho, yld, putPs, lenN, findR, notRound, jumpK, jumpPT, jcode, List.map_cons, List.map_nil, ite_self, reduceIte]
      simp only [true_and, and_true, imp_self, implies_true, decide_eq_true_eq, decide_eq_false_iff_not, Nat.reduceAdd, Nat.reduceLeDiff, Bool.not_not, reduceCtorEq, false_imp_iff, Bool.not_eq_true', Bool.not_eq_false', Bool.false_eq_true, and_self, forall_const, ne_eq, not_false_eq_true, Nat.reduceEqDiff]
      have hc := dcy_le (a := a) (i := i) hx
      have hdl := dig_lt a i
      have e1 := dbl_dig a x i
      have e2 := dbl_cy a x i
      refine ⟨fun hlt => ⟨⟨by omega, by omega⟩, by decide, ⟨by omega, by omega⟩, by omega, ⟨by omega, by omega⟩, by decide, i + 1, by omega, by omega, ?_⟩, fun hge => ?_⟩
      · have w1 := dbl_or hdl hc
        have w2 := @dbl_shr (dig a i)
        rw [show IntKind.u32.bits = 32 from rfl, w1, w2, e1, ← e2, IntWalk.i64_in ((i : Int) + 1) (by omega)]
        simp only [leS_mk, leL_cons, leL_nil, le_junk, le_int, le_bool, le_nil, leLL_nil, leLL_cons, leH_cons, leH_nil, leH1_box, leH1_own, leH1_gone, le_vs, le_agg, le_tup, le_ptr, le_own, le_xp, le_fn, le_opt, le_val, le_elem, le_nil_own, le_nil_vs, leH_ghost, leL_chunk, leXL_id, bnd_int, bnd_bool, bnd_val, bnd_nil, bnd_junk, bnd_vs, bnd_xp, bnd_agg, bnd_tup, bnd_ptr, bnd_own, bnd_elem, bnd_fn, bnd_iface, bnd_opt, bndL_nil, bndL_cons, lenH_cons, lenH_nil, imp_self, implies_true, true_and, and_true]
        refine ⟨⟨by omega, by simp⟩, fun j hj => ?_⟩
        rw [dig_mod_if, dig_mod_if]
        split
        · rename_i hji; subst hji; rw [if_pos (Nat.lt_succ_self _)]; simp only [leL, le, and_self]
        · split
          · rw [if_pos (by omega)]; simp only [leL, le, and_self]
          · rw [if_neg (by omega)]; simp only [leL, le, and_self]
      · obtain rfl : i = n := by omega
        have htop := (dcy_top (x := x) ha).resolve_right (by omega)
        refine ⟨by omega, by omega, 2 * a + x, ⟨rfl, by omega, by rw [pw_succ]; omega, fun j hj => ?_⟩, ans_natS (t := true) h⟩
        dsimp only
        rcases Nat.lt_or_ge j i with h' | h'
        · rw [if_neg (by omega), dig_mod h']; exact leXL_self _
        · obtain rfl : j = i := by omega
          rw [if_pos rfl, htop]; exact leXL_self _
  · exact h.1.elim
def R3 : Env := { ct := fun n => match n with | 80 => some trimC | 58 => some orderC | 95 => some minusC | 77 => some sizeC | 90 => some bitC | 94 => some doubleC | _ => none, fn := fun _ => none, meth := fun _ _ => none }
theorem R3_ct80 : R3.ct 80 = some trimC := rfl
theorem R3_ct58 : R3.ct 58 = some orderC := rfl
theorem R3_ct95 : R3.ct 95 = some minusC := rfl
theorem R3_ct77 : R3.ct 77 = some sizeC := rfl
theorem R3_ct90 : R3.ct 90 = some bitC := rfl
theorem R3_ct94 : R3.ct 94 = some doubleC := rfl
theorem R3_ok : EnvOk Try.prog R3 := by
  refine ⟨fun f c h => ?_, fun f vf h => ?_, fun _ _ => rfl, by kernel_rfl⟩
  · simp only [R3] at h
    split at h
    · cases h; exact ⟨trim_ok, Try.f80, Try.func80, by kernel_rfl, by kernel_rfl⟩
    · cases h; exact ⟨order_ok, Try.f58, Try.func58, by kernel_rfl, by kernel_rfl⟩
    · cases h; exact ⟨minus_ok, Try.f95, Try.func95, by kernel_rfl, by kernel_rfl⟩
    · cases h; exact ⟨size_ok, Try.f77, Try.func77, by kernel_rfl, by kernel_rfl⟩
    · cases h; exact ⟨bit_ok, Try.f90, Try.func90, by kernel_rfl, by kernel_rfl⟩
    · cases h; exact ⟨double_ok, Try.f94, Try.func94, by kernel_rfl, by kernel_rfl⟩
    · cases h
  · cases h


theorem divide_ok : divideC.ok Try.prog 87 := by
  refine contract Try.func87 v87_is R3_ok 300 divideC fun args k h => ?_
  simp only [divideC] at h
  split at h
  · rename_i t1 z1 n sz get t2 z2 m sz' get'
    obtain ⟨a, b, ⟨⟨rfl, hn, ha, hg⟩, rfl, ⟨rfl, hm, hb, hg'⟩, hb0, hm9, hn9⟩, h⟩ := h
    refine ⟨[.vs t1 z1 (nl a) 1 (fun k => [.int .u32 (dig a k)]), .vs t2 z2 m 1 (fun k => [.int .u32 (dig b k)])], ⟨by simpa [le] using hg, by simpa [le] using hg', trivial⟩, ?_⟩
    dsimp only [v87, R3_ct77, sizeC, r_end, r_end1, r_nil, r_op, r_opg, r_runOp, r_op0, r_yld0, r_yld1, r_y, r_rbeg, r_rend, r_rend1, r_rfrm, r_rfrm1, r_range, r_rangeK, r_rangeE, r_draw, r_dnil, r_dop, r_dopg, r_dplq, r_dplh, r_dq, r_dq0, r_dcl1, r_dcl0, r_dct1, r_dct0, r_dgd, r_dgq1, r_dgq0, r_dctG, r_op1, r_eff, r_eff0, r_call, r_call0, r_inl, r_g, r_gq, r_gc, r_effg, r_effg0, r_callg, r_callg0, r_fin, r_pre, r_imp, r_all, r_ex, r_fing, r_preg, r_exg, r_inBlock, r_inLoop, r_frame, r_frame1, r_skip, r_stuck, r_region, r_seq, r_cond, r_cond1, r_block, r_exit, r_exit1, r_exit2, r_ret, r_loop, s_args0, s_args1, s_xt, s_xc, padL, blankL, callee, callArgs, eff, ctOf, getL, setL, S.put, S.upd, unopts, unopt, unoptsO, unoptsB, lazyO, guardOf, gbool, eMov, eNot, eNeg, eConv, eExt, eLenArr, eLen, eLenStr, eEqb, eEqv, allEq, eNil, negIf, eBool2, eCmp, eAri, ari, eBit, eDiv, eSh, eMinMax, foldMin, foldMax, kEq, pure1, cmpB, VO.quiet, resVals, resVal, tupled, popRet, popTo, cond, Option.bind, Option.map, eNew, eBox, asCells, lenH, snocH, eFieldAddr, eField, eLoad, cellsAt, getH, setH, dropL, takeL, mkAgg, lenL, lenS, shift, shiftL, shiftH, viewN, viewL, view, andT, junks, List.append_nil, Nat.beq, eIdxAddr, eIdxArr, idxN_0, idxN_1, idxN_2, idxN_3, eIndex, eStore, storeAt, spliceL, ones, one, eSlice, eSliceArr, bounds, subLo_z, addLo_z, subLo_one, addLo_one, eMake, eAppend, readS, repL, buildCells, chunk, purgeL, purgeLL, purgeH, purge, refs, refsL, List.cons_append, List.nil_append, wrOps, wrAl, wrDops, wrC, junkAt, putAll, putHs, headOf, headK, keepG, List.append_eq, headX, chkP, apartP, apartB, blk, strip, runAl, AL.ho, yld, putPs, lenN, findR, notRound, jumpK, jumpPT, jcode, List.map_cons, List.map_nil, ite_self, reduceIte]
    simp only [true_and, and_true, imp_self, implies_true, decide_eq_true_eq, decide_eq_false_iff_not, Nat.reduceAdd, Nat.reduceLeDiff, Bool.not_not, reduceCtorEq, false_imp_iff, Bool.not_eq_true', Bool.not_eq_false', Bool.false_eq_true, and_self, forall_const, ne_eq, not_false_eq_true, Nat.reduceEqDiff]
    simp only [Int.toNat_natCast]
    have hbl := bitsN_nl a
    refine ⟨⟨by decide, by omega, by unfold capOk; omega⟩, a, ⟨padP_self hn ha, rfl⟩, ?_⟩
    refine Loop.keep [0, 0, 4] (Nat × Nat × Nat × Bool) (fun x => [(7, .vs true x.2.2.2 (nl x.2.2.1) 1 (fun k => [.int .u32 (dig x.2.2.1 k)])), (8, .int .i64 ((x.1 : Int) - 1))]) (fun x => [(0, .own false 1 (nl a) (fun k => [.int .u32 (dig x.2.1 k)]))]) [] (fun x => x.1 ≤ bitsN a ∧ a / 2 ^ x.1 = x.2.1 / 2 ^ x.1 * b + x.2.2.1 ∧ x.2.1 % 2 ^ x.1 = 0 ∧ x.2.2.1 < b) (fun x => x.1) ?_ ?_
    · refine ⟨(bitsN a, 0, 0, true), ⟨Nat.le_refl _, ?_, by simp, hb0⟩, ?_⟩
      · rw [Nat.div_eq_of_lt (bitsN_lt a)]; simp
      · dsimp only [r_end, r_end1, r_nil, r_op, r_opg, r_runOp, r_op0, r_yld0, r_yld1, r_y, r_rbeg, r_rend, r_rend1, r_rfrm, r_rfrm1, r_range, r_rangeK, r_rangeE, r_draw, r_dnil, r_dop, r_dopg, r_dplq, r_dplh, r_dq, r_dq0, r_dcl1, r_dcl0, r_dct1, r_dct0, r_dgd, r_dgq1, r_dgq0, r_dctG, r_op1, r_eff, r_eff0, r_call, r_call0, r_inl, r_g, r_gq, r_gc, r_effg, r_effg0, r_callg, r_callg0, r_fin, r_pre, r_imp, r_all, r_ex, r_fing, r_preg, r_exg, r_inBlock, r_inLoop, r_frame, r_frame1, r_skip, r_stuck, r_region, r_seq, r_cond, r_cond1, r_block, r_exit, r_exit1, r_exit2, r_ret, r_loop, s_args0, s_args1, s_xt, s_xc, padL, blankL, callee, callArgs, eff, ctOf, getL, setL, S.put, S.upd, unopts, unopt, unoptsO, unoptsB, lazyO, guardOf, gbool, eMov, eNot, eNeg, eConv, eExt, eLenArr, eLen, eLenStr, eEqb, eEqv, allEq, eNil, negIf, eBool2, eCmp, eAri, ari, eBit, eDiv, eSh, eMinMax, foldMin, foldMax, kEq, pure1, cmpB, VO.quiet, resVals, resVal, tupled, popRet, popTo, cond, Option.bind, Option.map, eNew, eBox, asCells, lenH, snocH, eFieldAddr, eField, eLoad, cellsAt, getH, setH, dropL, takeL, mkAgg, lenL, lenS, shift, shiftL, shiftH, viewN, viewL, view, andT, junks, List.append_nil, Nat.beq, eIdxAddr, eIdxArr, idxN_0, idxN_1, idxN_2, idxN_3, eIndex, eStore, storeAt, spliceL, ones, one, eSlice, eSliceArr, bounds, subLo_z, addLo_z, subLo_one, addLo_one, eMake, eAppend, readS, repL, buildCells, chunk, purgeL, purgeLL, purgeH, purge, refs, refsL, List.cons_append, List.nil_append, wrOps, wrAl, wrDops, wrC, junkAt, putAll, putHs, headOf, headK, keepG, List.append_eq, headX, chkP, apartP, apartB, blk, strip, runAl, AL.ho, yld, putPs, lenN, findR, notRound, jumpK, jumpPT, jcode, List.map_cons, List.map_nil, ite_self, reduceIte]
        simp only [leS_mk, leL_cons, leL_nil, le_junk, le_int, le_bool, le_nil, leLL_nil, leLL_cons, leH_cons, leH_nil, leH1_box, leH1_own, leH1_gone, le_vs, le_agg, le_tup, le_ptr, le_own, le_xp, le_fn, le_opt, le_val, le_elem, le_nil_own, le_nil_vs, leH_ghost, leL_chunk, leXL_id, bnd_int, bnd_bool, bnd_val, bnd_nil, bnd_junk, bnd_vs, bnd_xp, bnd_agg, bnd_tup, bnd_ptr, bnd_own, bnd_elem, bnd_fn, bnd_iface, bnd_opt, bndL_nil, bndL_cons, lenH_cons, lenH_nil, imp_self, implies_true, true_and, and_true]
        rw [IntWalk.i64_in _ (by omega)]
        simp [leL, le, nl_0, dig_zero]
    · rintro ⟨j, q, r, z⟩ ⟨hj, hq, hqm, hr⟩
      dsimp only at hj hq hqm hr
      dsimp only [R3_ct80, R3_ct58, R3_ct95, R3_ct90, R3_ct94, trimC, orderC, minusC, bitC, doubleC, natS, bitI, Int.toNat_natCast, r_end, r_end1, r_nil, r_op, r_opg, r_runOp, r_op0, r_yld0, r_yld1, r_y, r_rbeg, r_rend, r_rend1, r_rfrm, r_rfrm1, r_range, r_rangeK, r_rangeE, r_draw, r_dnil, r_dop, r_dopg, r_dplq, r_dplh, r_dq, r_dq0, r_dcl1, r_dcl0, r_dct1, r_dct0, r_dgd, r_dgq1, r_dgq0, r_dctG, r_op1, r_eff, r_eff0, r_call, r_call0, r_inl, r_g, r_gq, r_gc, r_effg, r_effg0, r_callg, r_callg0, r_fin, r_pre, r_imp, r_all, r_ex, r_fing, r_preg, r_exg, r_inBlock, r_inLoop, r_frame, r_frame1, r_skip, r_stuck, r_region, r_seq, r_cond, r_cond1, r_block, r_exit, r_exit1, r_exit2, r_ret, r_loop, s_args0, s_args1, s_xt, s_xc, padL, blankL, callee, callArgs, eff, ctOf, getL, setL, S.put, S.upd, unopts, unopt, unoptsO, unoptsB, lazyO, guardOf, gbool, eMov, eNot, eNeg, eConv, eExt, eLenArr, eLen, eLenStr, eEqb, eEqv, allEq, eNil, negIf, eBool2, eCmp, eAri, ari, eBit, eDiv, eSh, eMinMax, foldMin, foldMax, kEq, pure1, cmpB, VO.quiet, resVals, resVal, tupled, popRet, popTo, cond, Option.bind, Option.map, eNew, eBox, asCells, lenH, snocH, eFieldAddr, eField, eLoad, cellsAt, getH, setH, dropL, takeL, mkAgg, lenL, lenS, shift, shiftL, shiftH, viewN, viewL, view, andT, junks, List.append_nil, Nat.beq, eIdxAddr, eIdxArr, idxN_0, idxN_1, idxN_2, idxN_3, eIndex, eStore, storeAt, spliceL, ones, one, eSlice, eSliceArr, bounds, subLo_z, addLo_z, subLo_one, addLo_one, eMake, eAppend, readS, repL, buildCells, chunk, purgeL, purgeLL, purgeH, purge, refs, refsL, List.cons_append, List.nil_append, wrOps, wrAl, wrDops, wrC, junkAt, putAll, putHs, headOf, headK, keepG, List.append_eq, headX, chkP, apartP, apartB, blk, strip, runAl, AL.ho, yld, putPs, lenN, findR, notRound, jumpK, jumpPT, jcode, List.map_cons, List.map_nil, ite_self, reduceIte]
      simp only [true_and, and_true, imp_self, implies_true, decide_eq_true_eq, decide_eq_false_iff_not, Nat.reduceAdd, Nat.reduceLeDiff, Bool.not_not, reduceCtorEq, false_imp_iff, Bool.not_eq_true', Bool.not_eq_false', Bool.false_eq_true, and_self, forall_const, ne_eq, not_false_eq_true, Nat.reduceEqDiff]
      refine ⟨fun hlt => ?_, fun hge => ?_⟩
      · obtain ⟨i, rfl⟩ : ∃ i, j = i + 1 := ⟨j - 1, by omega⟩
        have e0 : ((i + 1 : Nat) : Int) - 1 = i := by omega
        have e1 : IntKind.i64.wrap ((i : Int).tdiv 32) = ((i / 32 : Nat) : Int) := by
          have : (i : Int).tdiv 32 = ((i / 32 : Nat) : Int) := IntWalk.up_tdiv (y := 32) rfl rfl
          rw [this, IntWalk.i64_in _ (by omega)]
        have e2 : (i : Int).tmod 32 = ((i % 32 : Nat) : Int) := IntWalk.up_tmod (y := 32) rfl rfl
        rw [e0, e1, e2]
        simp only [Int.toNat_natCast]
        have hbit := bitN_lt a i
        have hrn : nl r ≤ 9999 := Nat.le_trans (nl_mono (Nat.le_of_lt hr)) (Nat.le_trans (nl_le.2 hb) hm9)
        have hr2' : ∀ K, nl r ≤ K → nl (2 * r + bitN a i) ≤ K + 1 := fun K hK => by
          have h1 := nl_le.1 hK
          rw [nl_le, pw_succ]
          omega
        have hr2 : nl (2 * r + bitN a i) ≤ 10000 := hr2' 9999 hrn
        refine ⟨a, ⟨padP_self hn ha, by omega, by omega⟩, r, ⟨padP_nl (by omega), by omega, by omega, by omega⟩, 2 * r + bitN a i, b, ⟨padP_nl (by omega), padP_self hm hb⟩, fun hc => ?_, fun hc => ?_⟩
        · have hbr : b ≤ 2 * r + bitN a i := by
            unfold ordN at hc
            split at hc
            · omega
            · omega
          obtain ⟨s1, s2, s3⟩ := setbit hqm
          obtain ⟨d1, d2⟩ := div_step1 hq hqm hbr
          have hi32 : i / 32 < nl a := by omega
          have hm32 : i % 32 < 32 := Nat.mod_lt _ (by decide)
          refine ⟨_, _, ⟨padP_nl (by omega), padP_self hm hb, hbr⟩, by decide, by decide, ⟨by omega, by omega⟩, hi32, by decide, by omega, ⟨by omega, by omega⟩, hi32, (i, q + 2 ^ i, 2 * r + bitN a i - b, false), ⟨by simp only; omega, d1, d2, by simp only; omega⟩, by simp only; omega, ?_⟩
          have w : IntKind.u32.wrap (1 * 2 ^ min (i % 32) IntKind.u32.bits) = ((2 ^ (i % 32) : Nat) : Int) := by
            have e4 : min (i % 32) IntKind.u32.bits = i % 32 := by show min (i % 32) 32 = _; omega
            have e5 : (1 : Int) * 2 ^ (i % 32) = ((2 ^ (i % 32) : Nat) : Int) := by simp
            rw [e4, e5]
            exact u3_nat (Nat.pow_lt_pow_right (by decide) hm32)
          rw [w, show IntKind.u32.bits = 32 from rfl, or_nat (dig_lt _ _) (Nat.pow_lt_pow_right (by decide) hm32), or_add s1, IntWalk.i64_in ((i : Int) - 1) (by omega)]
          simp only [leS_mk, leL_cons, leL_nil, le_junk, le_int, le_bool, le_nil, leLL_nil, leLL_cons, leH_cons, leH_nil, leH1_box, leH1_own, leH1_gone, le_vs, le_agg, le_tup, le_ptr, le_own, le_xp, le_fn, le_opt, le_val, le_elem, le_nil_own, le_nil_vs, leH_ghost, leL_chunk, leXL_id, bnd_int, bnd_bool, bnd_val, bnd_nil, bnd_junk, bnd_vs, bnd_xp, bnd_agg, bnd_tup, bnd_ptr, bnd_own, bnd_elem, bnd_fn, bnd_iface, bnd_opt, bndL_nil, bndL_cons, lenH_cons, lenH_nil, imp_self, implies_true, true_and, and_true]
          refine ⟨by decide, fun k hk => ?_⟩
          rw [← s2, dig_setD s3]
          split <;> simp only [leL, le, and_self]
        · have hbr : 2 * r + bitN a i < b := by
            unfold ordN at hc
            split at hc
            · omega
            · split at hc <;> omega
          refine ⟨(i, q, 2 * r + bitN a i, false), ⟨by simp only; omega, div_step0 hq hqm, (mod_half hqm).1, hbr⟩, by simp only; omega, ?_⟩
          rw [IntWalk.i64_in ((i : Int) - 1) (by omega)]
          simp only [leS_mk, leL_cons, leL_nil, le_junk, le_int, le_bool, le_nil, leLL_nil, leLL_cons, leH_cons, leH_nil, leH1_box, leH1_own, leH1_gone, le_vs, le_agg, le_tup, le_ptr, le_own, le_xp, le_fn, le_opt, le_val, le_elem, le_nil_own, le_nil_vs, leH_ghost, leL_chunk, leXL_id, bnd_int, bnd_bool, bnd_val, bnd_nil, bnd_junk, bnd_vs, bnd_xp, bnd_agg, bnd_tup, bnd_ptr, bnd_own, bnd_elem, bnd_fn, bnd_iface, bnd_opt, bndL_nil, bndL_cons, lenH_cons, lenH_nil, imp_self, implies_true, true_and, and_true]
          decide
      · obtain rfl : j = 0 := by omega
        obtain ⟨rfl, rfl⟩ := div_end hq hr
        refine ⟨a / b, padP_self hn (Nat.lt_of_le_of_lt (Nat.div_le_self _ _) ha), ?_⟩
        exact ans_le (show k _ [] from h z) (le_self _ ⟨trivial, trivial, trivial⟩) (fun _ => by simp [natS, freshS, freshL])
  · exact h.1.elim
end Go.Proofs.Ytdognchniaojoaa
