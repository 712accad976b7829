/- Bellows: what the laws call besides. -/
import Derived.Test.YtliipeebknljdaaW5
import Derived.Test.YtliipeebknljdaaW6
import Derived.Test.YtliipeebknljdaaW7
set_option linter.all false
namespace Go.Proofs.Ytliipeebknljdaa
open Go Go.Vx
set_option maxRecDepth 100000
set_option maxHeartbeats 4000000

def v18 : VF := { ntmps := 26, res := [.tmp 4], body :=
 (.seq (.region [⟨(some 4), none, .mov, [.cn (.bool false)]⟩])
 (.seq (.seq (.region [⟨(some 6), none, .mov, [.tm 0]⟩,
  ⟨(some 7), none, .len, [.tm 6]⟩,
  ⟨(some 8), none, .mov, [.tm 1]⟩,
  ⟨(some 9), none, .len, [.tm 8]⟩,
  ⟨(some 10), none, (.cmp .neq), [.tm 7, .tm 9]⟩])
 (.cond (.tm 10) (.seq (.region [⟨(some 4), none, .mov, [.cn (.bool false)]⟩])
 .ret)
  .skip))
 (.seq (.seq (.region [⟨(some 5), none, .mov, [.cn (.int .i64 0)]⟩])
 (.block 0 (.loop (.seq (.seq (.region [⟨(some 11), none, .mov, [.tm 5]⟩,
  ⟨(some 12), none, .mov, [.tm 0]⟩,
  ⟨(some 13), none, .len, [.tm 12]⟩,
  ⟨(some 14), none, (.cmp .lss), [.tm 11, .tm 13]⟩])
 (.cond (.tm 14) .skip
  (.exit 0)))
 (.seq (.block 1 (.seq (.draw [] [⟨⟨(some 17), none, .mov, [.tm 0]⟩, []⟩,
  ⟨⟨(some 18), none, .mov, [.tm 5]⟩, []⟩,
  ⟨⟨(some 19), none, (.idxAddr 2), [.tm 17, .tm 18]⟩, []⟩,
  ⟨⟨(some 20), none, (.load true 2), [.tm 19]⟩, []⟩,
  ⟨⟨(some 21), none, .mov, [.tm 1]⟩, []⟩,
  ⟨⟨(some 22), none, .mov, [.tm 5]⟩, []⟩,
  ⟨⟨(some 23), none, (.idxAddr 2), [.tm 21, .tm 22]⟩, []⟩,
  ⟨⟨(some 24), none, (.load true 2), [.tm 23]⟩, []⟩,
  ⟨⟨(some 25), none, (.eqv true [true, true]), [.tm 20, .tm 24]⟩, []⟩])
 (.cond (.tm 25) (.seq (.region [⟨(some 4), none, .mov, [.cn (.bool false)]⟩])
 .ret)
  .skip)))
 (.region [⟨(some 15), none, .mov, [.tm 5]⟩,
  ⟨(some 16), none, (.ari .add), [.tm 15, .cn (.int .i64 1)]⟩,
  ⟨(some 5), none, .mov, [.tm 16]⟩]))))))
 (.seq (.region [⟨(some 4), none, .mov, [.cn (.bool true)]⟩])
 .ret)))) }
theorem v18_is : vfunc Try.prog Try.f18 = some v18 := by kernel_rfl
def v26 : VF := { ntmps := 8, res := [.cell 4 true 2], body :=
 (.seq (.region [⟨(some 4), none, (.alloc [(.int .i64 0), (.int .i64 0)]), []⟩])
 (.seq (.region [⟨(some 5), none, .mov, [.tm 0]⟩,
  ⟨(some 6), none, .mov, [.tm 1]⟩,
  ⟨(some 7), none, (.build [(.int .i64 0), (.int .i64 0)] [(0, 1), (1, 1)]), [.tm 5, .tm 6]⟩,
  ⟨none, none, (.store 2), [.tm 4, .tm 7]⟩])
 .ret)) }
theorem v26_is : vfunc Try.prog Try.f26 = some v26 := by kernel_rfl
def v9 : VF := { ntmps := 105, res := [.tmp 0], body :=
 (.seq (.region [⟨(some 0), none, .mov, [.cn (.bool false)]⟩])
 (.seq (.region [⟨(some 15), none, (.call 26), [.cn (.int .i64 2), .cn (.int .i64 4)]⟩,
  ⟨(some 16), none, (.build [(.int .i64 0), (.int .i64 0), (.int .i64 0), (.int .i64 0), (.int .i64 0)] [(0, 1), (1, 1), (2, 1), (3, 2)]), [.cn (.int .i64 10), .cn (.int .i64 4), .cn (.int .i64 12), .tm 15]⟩,
  ⟨(some 1), none, (.alloc [(.int .i64 0), (.int .i64 0), (.int .i64 0), (.int .i64 0), (.int .i64 0)]), []⟩,
  ⟨none, none, (.store 5), [.tm 1, .tm 16]⟩])
 (.seq (.region [⟨(some 17), none, (.call 26), [.cn (.int .i64 0), .cn (.int .i64 0)]⟩,
  ⟨(some 18), none, (.call 26), [.cn (.int .i64 6), .cn (.int .i64 8)]⟩,
  ⟨(some 19), none, (.call 26), [.cn (.int .i64 9), .cn (.int .i64 9)]⟩,
  ⟨(some 20), none, (.buildSlice 2 3 [(.int .i64 0), (.int .i64 0)] [(0, 2), (2, 2), (4, 2)]), [.tm 17, .tm 18, .tm 19]⟩,
  ⟨(some 2), none, .mov, [.tm 20]⟩])
 (.seq (.region [⟨(some 22), none, (.load true 5), [.tm 1]⟩,
  ⟨(some 23), none, .mov, [.tm 2]⟩,
  ⟨(some 24), none, (.call 10), [.tm 22, .tm 23]⟩,
  ⟨(some 21), none, .mov, [.tm 24]⟩,
  ⟨(some 25), none, (.ext 0), [.tm 21]⟩,
  ⟨(some 26), none, (.ext 1), [.tm 21]⟩,
  ⟨(some 3), none, .mov, [.tm 25]⟩,
  ⟨(some 4), none, .mov, [.tm 26]⟩])
 (.seq (.region [⟨(some 28), none, (.load true 5), [.tm 1]⟩,
  ⟨(some 29), none, .mov, [.tm 2]⟩,
  ⟨(some 30), none, (.call 12), [.tm 28, .tm 29]⟩,
  ⟨(some 27), none, .mov, [.tm 30]⟩,
  ⟨(some 31), none, (.ext 0), [.tm 27]⟩,
  ⟨(some 32), none, (.ext 1), [.tm 27]⟩,
  ⟨(some 5), none, .mov, [.tm 31]⟩,
  ⟨(some 6), none, .mov, [.tm 32]⟩])
 (.seq (.region [⟨(some 34), none, (.load true 5), [.tm 1]⟩,
  ⟨(some 35), none, .mov, [.tm 2]⟩,
  ⟨(some 36), none, (.call 14), [.tm 34, .tm 35]⟩,
  ⟨(some 33), none, .mov, [.tm 36]⟩,
  ⟨(some 37), none, (.ext 0), [.tm 33]⟩,
  ⟨(some 38), none, (.ext 1), [.tm 33]⟩,
  ⟨(some 39), none, (.ext 2), [.tm 33]⟩,
  ⟨(some 7), none, .mov, [.tm 37]⟩,
  ⟨(some 8), none, .mov, [.tm 38]⟩,
  ⟨(some 9), none, .mov, [.tm 39]⟩])
 (.seq (.region [⟨(some 41), none, (.load true 5), [.tm 1]⟩,
  ⟨(some 42), none, (.call 19), [.tm 41, .cn (.int .i64 3)]⟩,
  ⟨(some 40), none, .mov, [.tm 42]⟩,
  ⟨(some 43), none, (.ext 0), [.tm 40]⟩,
  ⟨(some 44), none, (.ext 1), [.tm 40]⟩,
  ⟨(some 45), none, (.ext 2), [.tm 40]⟩,
  ⟨(some 10), none, .mov, [.tm 43]⟩,
  ⟨(some 11), none, .mov, [.tm 44]⟩,
  ⟨(some 12), none, .mov, [.tm 45]⟩])
 (.seq (.draw [] [⟨⟨(some 47), none, (.load true 5), [.tm 1]⟩, []⟩,
  ⟨⟨(some 48), none, .mov, [.tm 2]⟩, []⟩,
  ⟨⟨(some 49), none, (.slice 2 true true), [.tm 48, .cn (.int .i64 1), .cn (.int .i64 2)]⟩, []⟩,
  ⟨⟨(some 50), none, (.call 21), [.tm 47, .tm 49]⟩, []⟩,
  ⟨⟨(some 46), none, .mov, [.tm 50]⟩, []⟩,
  ⟨⟨(some 51), none, (.ext 0), [.tm 46]⟩, []⟩,
  ⟨⟨(some 52), none, (.ext 1), [.tm 46]⟩, []⟩,
  ⟨⟨(some 13), none, .mov, [.tm 51]⟩, []⟩,
  ⟨⟨(some 14), none, .mov, [.tm 52]⟩, []⟩])
 (.seq (.seq (.region [⟨(some 53), none, .mov, [.tm 4]⟩,
  ⟨(some 54), none, (.cmp .neq), [.tm 53, .cn (.int .i64 0)]⟩,
  ⟨(some 55), none, .mov, [.tm 54]⟩,
  ⟨(some 56), (some (55, false)), .mov, [.tm 6]⟩,
  ⟨(some 57), (some (55, false)), (.cmp .neq), [.tm 56, .cn (.int .i64 0)]⟩,
  ⟨(some 58), none, .or, [.tm 55, .tm 57]⟩,
  ⟨(some 59), none, .mov, [.tm 58]⟩,
  ⟨(some 60), (some (59, false)), .mov, [.tm 9]⟩,
  ⟨(some 61), (some (59, false)), (.cmp .neq), [.tm 60, .cn (.int .i64 0)]⟩,
  ⟨(some 62), none, .or, [.tm 59, .tm 61]⟩,
  ⟨(some 63), none, .mov, [.tm 62]⟩,
  ⟨(some 64), (some (63, false)), .mov, [.tm 12]⟩,
  ⟨(some 65), (some (63, false)), (.cmp .neq), [.tm 64, .cn (.int .i64 0)]⟩,
  ⟨(some 66), none, .or, [.tm 63, .tm 65]⟩,
  ⟨(some 67), none, .mov, [.tm 66]⟩,
  ⟨(some 68), (some (67, false)), .mov, [.tm 14]⟩,
  ⟨(some 69), (some (67, false)), (.cmp .neq), [.tm 68, .cn (.int .i64 0)]⟩,
  ⟨(some 70), none, .or, [.tm 67, .tm 69]⟩])
 (.cond (.tm 70) (.seq (.region [⟨(some 0), none, .mov, [.cn (.bool false)]⟩])
 .ret)
  .skip))
 (.seq (.region [⟨(some 71), none, .mov, [.tm 3]⟩,
  ⟨(some 72), none, (.call 26), [.cn (.int .i64 10), .cn (.int .i64 11)]⟩,
  ⟨(some 73), none, (.call 26), [.cn (.int .i64 2), .cn (.int .i64 5)]⟩,
  ⟨(some 74), none, (.call 26), [.cn (.int .i64 0), .cn (.int .i64 0)]⟩,
  ⟨(some 75), none, (.buildSlice 2 3 [(.int .i64 0), (.int .i64 0)] [(0, 2), (2, 2), (4, 2)]), [.tm 72, .tm 73, .tm 74]⟩,
  ⟨(some 76), none, (.call 18), [.tm 71, .tm 75]⟩,
  ⟨(some 77), none, .mov, [.tm 76]⟩,
  ⟨(some 78), (some (77, true)), .mov, [.tm 5]⟩,
  ⟨(some 79), (some (77, true)), (.call 26), [.cn (.int .i64 0), .cn (.int .i64 0)]⟩,
  ⟨(some 80), (some (77, true)), (.call 26), [.cn (.int .i64 6), .cn (.int .i64 8)]⟩,
  ⟨(some 81), (some (77, true)), (.call 26), [.cn (.int .i64 4), .cn (.int .i64 8)]⟩,
  ⟨(some 82), (some (77, true)), (.buildSlice 2 3 [(.int .i64 0), (.int .i64 0)] [(0, 2), (2, 2), (4, 2)]), [.tm 79, .tm 80, .tm 81]⟩,
  ⟨(some 83), (some (77, true)), (.call 18), [.tm 78, .tm 82]⟩,
  ⟨(some 84), none, .and, [.tm 77, .tm 83]⟩,
  ⟨(some 85), none, .mov, [.tm 84]⟩,
  ⟨(some 86), (some (85, true)), .mov, [.tm 7]⟩,
  ⟨(some 87), (some (85, true)), (.cmp .eql), [.tm 86, .cn (.int .i64 2)]⟩,
  ⟨(some 88), none, .and, [.tm 85, .tm 87]⟩,
  ⟨(some 89), none, .mov, [.tm 88]⟩,
  ⟨(some 90), (some (89, true)), .mov, [.tm 8]⟩,
  ⟨(some 91), (some (89, true)), (.cmp .eql), [.tm 90, .cn (.int .i64 2)]⟩,
  ⟨(some 92), none, .and, [.tm 89, .tm 91]⟩,
  ⟨(some 93), none, .mov, [.tm 92]⟩,
  ⟨(some 94), (some (93, true)), .mov, [.tm 10]⟩,
  ⟨(some 95), (some (93, true)), (.cmp .eql), [.tm 94, .cn (.int .i64 6)]⟩,
  ⟨(some 96), none, .and, [.tm 93, .tm 95]⟩,
  ⟨(some 97), none, .mov, [.tm 96]⟩,
  ⟨(some 98), (some (97, true)), .mov, [.tm 11]⟩,
  ⟨(some 99), (some (97, true)), (.cmp .eql), [.tm 98, .cn (.int .i64 (-1))]⟩,
  ⟨(some 100), none, .and, [.tm 97, .tm 99]⟩,
  ⟨(some 101), none, .mov, [.tm 100]⟩,
  ⟨(some 102), (some (101, true)), .mov, [.tm 13]⟩,
  ⟨(some 103), (some (101, true)), (.cmp .eql), [.tm 102, .cn (.int .i64 7)]⟩,
  ⟨(some 104), none, .and, [.tm 101, .tm 103]⟩,
  ⟨(some 0), none, .mov, [.tm 104]⟩])
 .ret)))))))))) }
theorem v9_is : vfunc Try.prog Try.f9 = some v9 := by kernel_rfl


def same2C : Ctr := { alias := false, of := fun a => match a with
  | [.vs _ _ n sz get, .vs _ _ n2 sz2 get2] => .ex (List Iv) fun l => .ex (List Iv) fun r => .pre (lsP 2 enc2 n sz get l ∧ lsP 2 enc2 n2 sz2 get2 r ∧ l.length ≤ 9223372036854775807) (.fin (.bool (decide (l = r))) [])
  | _ => noC }

def S0 : Env := { ct := fun _ => none, fn := fun _ => none, meth := fun _ _ => none }
theorem S0_ok : EnvOk Try.prog S0 := by
  refine ⟨fun f c h => ?_, fun f vf h => ?_, fun _ _ => rfl, by kernel_rfl⟩
  · cases h
  · cases h


theorem same18 : same2C.ok Try.prog 18 := by
  refine contract Try.func18 v18_is S0_ok 400 same2C fun args k h => ?_
  simp only [same2C] at h
  split at h
  · rename_i t1 z1 n1 s1 g1 t2 z2 n2 s2 g2
    obtain ⟨l, r, ⟨⟨rfl, rfl, hg⟩, ⟨rfl, rfl, hg2⟩, hmax⟩, h⟩ := h
    refine ⟨[.vs t1 z1 l.length 2 (fun k => enc2 (l.getD k default)), .vs t2 z2 r.length 2 (fun k => enc2 (r.getD k default))], by simpa [leL, le] using ⟨hg, hg2⟩, ?_⟩
    dsimp only [v18, enc2, r_end, r_end1, r_nil, r_op, r_opg, r_runOp, r_op0, r_yld0, r_yld1, r_y, r_rbeg, r_rend, r_rend1, r_rfrm, r_rfrm1, r_range, r_rangeK, r_rangeE, r_draw, r_dnil, r_dop, r_dopg, r_dplq, r_dplh, r_dq, r_dq0, r_dcl1, r_dcl0, r_dct1, r_dct0, r_dgd, r_dgq1, r_dgq0, r_dctG, r_op1, r_eff, r_eff0, r_call, r_call0, r_inl, r_g, r_gq, r_gc, r_effg, r_effg0, r_callg, r_callg0, r_fin, r_pre, r_imp, r_all, r_ex, r_fing, r_preg, r_exg, r_inBlock, r_inLoop, r_frame, r_frame1, r_skip, r_region, r_seq, r_cond, r_cond1, r_block, r_exit, r_exit1, r_exit2, r_ret, r_loop, s_args0, s_args1, s_xt, s_xc, padL, blankL, callee, callArgs, eff, ctOf, getL, setL, S.put, S.upd, unopts, unopt, unoptsO, unoptsB, lazyO, guardOf, gbool, eMov, eNot, eNeg, eConv, eExt, eLenArr, eLen, eLenStr, eEqb, eEqv, allEq, eNil, negIf, eBool2, eCmp, eAri, ari, eBit, eDiv, eSh, eMinMax, foldMin, foldMax, kEq, pure1, cmpB, VO.quiet, resVals, resVal, tupled, popRet, popTo, cond, Option.bind, Option.map, eNew, eBox, asCells, lenH, snocH, eFieldAddr, eField, eLoad, cellsAt, getH, setH, dropL, takeL, mkAgg, lenL, lenS, shift, shiftL, shiftH, viewN, viewL, view, andT, junks, List.append_nil, Nat.beq, eIdxAddr, eIdxArr, eIndex, eStore, storeAt, spliceL, ones, one, eSlice, eSliceArr, bounds, subLo, addLo, eMake, eAppend, readS, repL, buildCells, chunk, purgeL, purgeLL, purgeH, purge, refs, refsL, List.cons_append, List.nil_append, wrOps, wrAl, wrDops, wrC, junkAt, putAll, putHs, headOf, headK, keepG, List.append_eq, headX, chkP, apartP, apartB, blk, strip, runAl, yld, putPs, lenN, findR, notRound, jumpK, jumpPT, jcode, List.map_cons, List.map_nil, ite_self, reduceIte]
    simp only [true_and, and_true, imp_self, implies_true, decide_eq_true_eq, decide_eq_false_iff_not, Nat.reduceAdd, Nat.reduceLeDiff, Bool.not_not, reduceCtorEq, false_imp_iff, Bool.not_eq_true', Bool.not_eq_false', Bool.false_eq_true, and_self, forall_const, ne_eq, not_false_eq_true, Nat.reduceEqDiff]
    refine ⟨fun hne => ans_bool ?_, fun heq => ?_⟩
    · have e : ¬ l = r := fun hh => hne (by rw [hh])
      rw [decide_eq_false e] at h; exact h
    · have hl : l.length = r.length := by omega
      refine Loop.keep [0, 0, 3] Nat (fun i => [(5, .int .i64 i)]) (fun _ => []) [] (fun i => i ≤ l.length ∧ ∀ j, j < i → l.getD j default = r.getD j default) (fun i => l.length - i) ?_ ?_
      · refine ⟨0, ⟨Nat.zero_le _, fun j h => by omega⟩, ?_⟩
        dsimp only [r_end, r_end1, r_nil, r_op, r_opg, r_runOp, r_op0, r_yld0, r_yld1, r_y, r_rbeg, r_rend, r_rend1, r_rfrm, r_rfrm1, r_range, r_rangeK, r_rangeE, r_draw, r_dnil, r_dop, r_dopg, r_dplq, r_dplh, r_dq, r_dq0, r_dcl1, r_dcl0, r_dct1, r_dct0, r_dgd, r_dgq1, r_dgq0, r_dctG, r_op1, r_eff, r_eff0, r_call, r_call0, r_inl, r_g, r_gq, r_gc, r_effg, r_effg0, r_callg, r_callg0, r_fin, r_pre, r_imp, r_all, r_ex, r_fing, r_preg, r_exg, r_inBlock, r_inLoop, r_frame, r_frame1, r_skip, r_region, r_seq, r_cond, r_cond1, r_block, r_exit, r_exit1, r_exit2, r_ret, r_loop, s_args0, s_args1, s_xt, s_xc, padL, blankL, callee, callArgs, eff, ctOf, getL, setL, S.put, S.upd, unopts, unopt, unoptsO, unoptsB, lazyO, guardOf, gbool, eMov, eNot, eNeg, eConv, eExt, eLenArr, eLen, eLenStr, eEqb, eEqv, allEq, eNil, negIf, eBool2, eCmp, eAri, ari, eBit, eDiv, eSh, eMinMax, foldMin, foldMax, kEq, pure1, cmpB, VO.quiet, resVals, resVal, tupled, popRet, popTo, cond, Option.bind, Option.map, eNew, eBox, asCells, lenH, snocH, eFieldAddr, eField, eLoad, cellsAt, getH, setH, dropL, takeL, mkAgg, lenL, lenS, shift, shiftL, shiftH, viewN, viewL, view, andT, junks, List.append_nil, Nat.beq, eIdxAddr, eIdxArr, eIndex, eStore, storeAt, spliceL, ones, one, eSlice, eSliceArr, bounds, subLo, addLo, eMake, eAppend, readS, repL, buildCells, chunk, purgeL, purgeLL, purgeH, purge, refs, refsL, List.cons_append, List.nil_append, wrOps, wrAl, wrDops, wrC, junkAt, putAll, putHs, headOf, headK, keepG, List.append_eq, headX, chkP, apartP, apartB, blk, strip, runAl, yld, putPs, lenN, findR, notRound, jumpK, jumpPT, jcode, List.map_cons, List.map_nil, ite_self, reduceIte]
        simp only [leS_mk, leL_cons, leL_nil, le_junk, le_int, le_bool, le_nil, leLL_nil, leLL_cons, leH_cons, leH_nil, leH1_box, leH1_own, leH1_gone, le_vs, le_agg, le_tup, le_ptr, le_own, le_xp, le_fn, le_opt, le_val, le_elem, le_nil_own, le_nil_vs, leH_ghost, leL_chunk, leXL_id, bnd_int, bnd_bool, bnd_val, bnd_nil, bnd_junk, bnd_vs, bnd_xp, bnd_agg, bnd_tup, bnd_ptr, bnd_own, bnd_elem, bnd_fn, bnd_iface, bnd_opt, bndL_nil, bndL_cons, lenH_cons, lenH_nil, imp_self, implies_true, true_and, and_true] <;> simp
      · rintro i ⟨hi, ha⟩
        dsimp only [enc2, Int.toNat_natCast, r_end, r_end1, r_nil, r_op, r_opg, r_runOp, r_op0, r_yld0, r_yld1, r_y, r_rbeg, r_rend, r_rend1, r_rfrm, r_rfrm1, r_range, r_rangeK, r_rangeE, r_draw, r_dnil, r_dop, r_dopg, r_dplq, r_dplh, r_dq, r_dq0, r_dcl1, r_dcl0, r_dct1, r_dct0, r_dgd, r_dgq1, r_dgq0, r_dctG, r_op1, r_eff, r_eff0, r_call, r_call0, r_inl, r_g, r_gq, r_gc, r_effg, r_effg0, r_callg, r_callg0, r_fin, r_pre, r_imp, r_all, r_ex, r_fing, r_preg, r_exg, r_inBlock, r_inLoop, r_frame, r_frame1, r_skip, r_region, r_seq, r_cond, r_cond1, r_block, r_exit, r_exit1, r_exit2, r_ret, r_loop, s_args0, s_args1, s_xt, s_xc, padL, blankL, callee, callArgs, eff, ctOf, getL, setL, S.put, S.upd, unopts, unopt, unoptsO, unoptsB, lazyO, guardOf, gbool, eMov, eNot, eNeg, eConv, eExt, eLenArr, eLen, eLenStr, eEqb, eEqv, allEq, eNil, negIf, eBool2, eCmp, eAri, ari, eBit, eDiv, eSh, eMinMax, foldMin, foldMax, kEq, pure1, cmpB, VO.quiet, resVals, resVal, tupled, popRet, popTo, cond, Option.bind, Option.map, eNew, eBox, asCells, lenH, snocH, eFieldAddr, eField, eLoad, cellsAt, getH, setH, dropL, takeL, mkAgg, lenL, lenS, shift, shiftL, shiftH, viewN, viewL, view, andT, junks, List.append_nil, Nat.beq, eIdxAddr, eIdxArr, eIndex, eStore, storeAt, spliceL, ones, one, eSlice, eSliceArr, bounds, subLo, addLo, eMake, eAppend, readS, repL, buildCells, chunk, purgeL, purgeLL, purgeH, purge, refs, refsL, List.cons_append, List.nil_append, wrOps, wrAl, wrDops, wrC, junkAt, putAll, putHs, headOf, headK, keepG, List.append_eq, headX, chkP, apartP, apartB, blk, strip, runAl, yld, putPs, lenN, findR, notRound, jumpK, jumpPT, jcode, List.map_cons, List.map_nil, ite_self, reduceIte]
        simp only [true_and, and_true, imp_self, implies_true, decide_eq_true_eq, decide_eq_false_iff_not, Nat.reduceAdd, Nat.reduceLeDiff, Bool.not_not, reduceCtorEq, false_imp_iff, Bool.not_eq_true', Bool.not_eq_false', Bool.false_eq_true, and_self, forall_const, ne_eq, not_false_eq_true, Nat.reduceEqDiff]
        refine ⟨fun hlt => ⟨⟨by omega, hlt⟩, ⟨by omega, by omega⟩, fun hb => ans_bool ?_, fun hb => ?_⟩, fun hge => ans_bool ?_⟩
        · have e : ¬ l = r := fun hh => by rw [hh] at hb; simp at hb
          rw [decide_eq_false e] at h; exact h
        · refine ⟨i + 1, ⟨by omega, fun j hj => ?_⟩, by omega, ?_⟩
          · rcases Nat.lt_or_ge j i with h' | h'
            · exact ha j h'
            · obtain rfl : j = i := by omega
              simp only [Bool.and_true, Bool.and_eq_true, decide_eq_true_eq] at hb
              exact Prod.ext hb.1 hb.2
          · have hs := w_succ (i := i) (n := l.length) (by omega) (by omega)
            simp only [hs, leS_mk, leL_cons, leL_nil, le_junk, le_int, le_bool, le_nil, leLL_nil, leLL_cons, leH_cons, leH_nil, leH1_box, leH1_own, leH1_gone, le_vs, le_agg, le_tup, le_ptr, le_own, le_xp, le_fn, le_opt, le_val, le_elem, le_nil_own, le_nil_vs, leH_ghost, leL_chunk, leXL_id, bnd_int, bnd_bool, bnd_val, bnd_nil, bnd_junk, bnd_vs, bnd_xp, bnd_agg, bnd_tup, bnd_ptr, bnd_own, bnd_elem, bnd_fn, bnd_iface, bnd_opt, bndL_nil, bndL_cons, lenH_cons, lenH_nil, imp_self, implies_true, true_and, and_true] <;> simp
        · have e : l = r := list_ext hl fun j hj => ha j (by omega)
          rw [decide_eq_true e] at h; exact h
  · exact h.1.elim

def ivC : Ctr := { alias := false, of := fun a => match a with
  | [.int .i64 x, .int .i64 y] => .fin (.agg [.int .i64 x, .int .i64 y]) []
  | _ => noC }
theorem iv26 : ivC.ok Try.prog 26 := by
  refine contract Try.func26 v26_is S0_ok 100 ivC fun args k h => ⟨args, ?_⟩
  simp only [ivC] at h
  split at h
  · refine ⟨by simp [leL, le], ?_⟩
    dsimp only [v26, r_end, r_end1, r_nil, r_op, r_opg, r_runOp, r_op0, r_yld0, r_yld1, r_y, r_rbeg, r_rend, r_rend1, r_rfrm, r_rfrm1, r_range, r_rangeK, r_rangeE, r_draw, r_dnil, r_dop, r_dopg, r_dplq, r_dplh, r_dq, r_dq0, r_dcl1, r_dcl0, r_dct1, r_dct0, r_dgd, r_dgq1, r_dgq0, r_dctG, r_op1, r_eff, r_eff0, r_call, r_call0, r_inl, r_g, r_gq, r_gc, r_effg, r_effg0, r_callg, r_callg0, r_fin, r_pre, r_imp, r_all, r_ex, r_fing, r_preg, r_exg, r_inBlock, r_inLoop, r_frame, r_frame1, r_skip, r_region, r_seq, r_cond, r_cond1, r_block, r_exit, r_exit1, r_exit2, r_ret, r_loop, s_args0, s_args1, s_xt, s_xc, padL, blankL, callee, callArgs, eff, ctOf, getL, setL, S.put, S.upd, unopts, unopt, unoptsO, unoptsB, lazyO, guardOf, gbool, eMov, eNot, eNeg, eConv, eExt, eLenArr, eLen, eLenStr, eEqb, eEqv, allEq, eNil, negIf, eBool2, eCmp, eAri, ari, eBit, eDiv, eSh, eMinMax, foldMin, foldMax, kEq, pure1, cmpB, VO.quiet, resVals, resVal, tupled, popRet, popTo, cond, Option.bind, Option.map, eNew, eBox, asCells, lenH, snocH, eFieldAddr, eField, eLoad, cellsAt, getH, setH, dropL, takeL, mkAgg, lenL, lenS, shift, shiftL, shiftH, viewN, viewL, view, andT, junks, List.append_nil, Nat.beq, eIdxAddr, eIdxArr, eIndex, eStore, storeAt, spliceL, ones, one, eSlice, eSliceArr, bounds, subLo, addLo, eMake, eAppend, readS, repL, buildCells, chunk, purgeL, purgeLL, purgeH, purge, refs, refsL, List.cons_append, List.nil_append, wrOps, wrAl, wrDops, wrC, junkAt, putAll, putHs, headOf, headK, keepG, List.append_eq, headX, chkP, apartP, apartB, blk, strip, runAl, yld, putPs, lenN, findR, notRound, jumpK, jumpPT, jcode, List.map_cons, List.map_nil, ite_self, reduceIte]
    simp only [true_and, and_true, imp_self, implies_true, decide_eq_true_eq, decide_eq_false_iff_not, Nat.reduceAdd, Nat.reduceLeDiff, Bool.not_not, reduceCtorEq, false_imp_iff, Bool.not_eq_true', Bool.not_eq_false', Bool.false_eq_true, and_self, forall_const, ne_eq, not_false_eq_true, Nat.reduceEqDiff]
    exact ans_le (show k _ [] from h) (by simp [expo, view, viewL, le, leL]) (by simp [freshS, freshL])
  · exact h.1.elim

def A1 : Env := { ct := fun n => match n with | 10 => some runC | 12 => some givC | 14 => some failsC | 19 => some lastsC | 21 => some needC | 26 => some ivC | 18 => some same2C | _ => none, fn := fun _ => none, meth := fun _ _ => none }
theorem A1_ct10 : A1.ct 10 = some runC := rfl
theorem A1_ct12 : A1.ct 12 = some givC := rfl
theorem A1_ct14 : A1.ct 14 = some failsC := rfl
theorem A1_ct19 : A1.ct 19 = some lastsC := rfl
theorem A1_ct21 : A1.ct 21 = some needC := rfl
theorem A1_ct26 : A1.ct 26 = some ivC := rfl
theorem A1_ct18 : A1.ct 18 = some same2C := rfl
theorem A1_ok : EnvOk Try.prog A1 := by
  refine ⟨fun f c h => ?_, fun f vf h => ?_, fun _ _ => rfl, by kernel_rfl⟩
  · simp only [A1] at h
    split at h
    · cases h; exact ⟨run10, Try.f10, Try.func10, by kernel_rfl, by kernel_rfl⟩
    · cases h; exact ⟨giv12, Try.f12, Try.func12, by kernel_rfl, by kernel_rfl⟩
    · cases h; exact ⟨fails14, Try.f14, Try.func14, by kernel_rfl, by kernel_rfl⟩
    · cases h; exact ⟨lasts19, Try.f19, Try.func19, by kernel_rfl, by kernel_rfl⟩
    · cases h; exact ⟨need21, Try.f21, Try.func21, by kernel_rfl, by kernel_rfl⟩
    · cases h; exact ⟨iv26, Try.f26, Try.func26, by kernel_rfl, by kernel_rfl⟩
    · cases h; exact ⟨same18, Try.f18, Try.func18, by kernel_rfl, by kernel_rfl⟩
    · cases h
  · cases h


def exB : Bel := ⟨10, 4, 12, 2, 4⟩
def exL : List Iv := [(0, 0), (6, 8), (9, 9)]
theorem ex1 : runF ⟨10, 4, 12, 2, 4⟩ [(0, 0), (6, 8), (9, 9)] = ([(10, 11), (2, 5), (0, 0)], 0) := by decide +kernel
theorem ex2 : givF ⟨10, 4, 12, 2, 4⟩ [(0, 0), (6, 8), (9, 9)] = ([(0, 0), (6, 8), (4, 8)], 0) := by decide +kernel
theorem ex3 : failsF ⟨10, 4, 12, 2, 4⟩ [(0, 0), (6, 8), (9, 9)] = (2, 2, 0) := by decide +kernel
theorem ex5 : needF ⟨10, 4, 12, 2, 4⟩ [(6, 8)] = (7, 0) := by decide +kernel
theorem ex4 : lastsF ⟨10, 4, 12, 2, 4⟩ 3 = (6, -1, 0) := by
  show lastsF exB 3 = _
  have e1 := last_at (b := exB) (n := 2) (d := 3) (i := 6) (by decide) (by decide) (by decide +kernel) (by decide +kernel)
  have e2 : lastF exB 4 3 = (-1, true) := by decide +kernel
  have e0 : belE exB = 0 := by decide +kernel
  rw [lastsF, if_neg (by rw [e0]; simp), if_neg (by decide)]
  simp only [show exB.il = 2 from rfl, show exB.ih = 4 from rfl, e1.2, e2]
  decide

theorem awake9 : trueC.ok Try.prog 9 := by
  refine contract Try.func9 v9_is A1_ok 800 trueC fun args k h => ⟨args, ?_⟩
  simp only [trueC] at h
  split at h
  · refine ⟨trivial, ?_⟩
    dsimp only [v9, A1_ct26, ivC, A1_ct10, runC, A1_ct12, givC, demC, ivsR, A1_ct14, failsC, A1_ct19, lastsC, d1C, A1_ct21, needC, A1_ct18, same2C, enc2, r_end, r_end1, r_nil, r_op, r_opg, r_runOp, r_op0, r_yld0, r_yld1, r_y, r_rbeg, r_rend, r_rend1, r_rfrm, r_rfrm1, r_range, r_rangeK, r_rangeE, r_draw, r_dnil, r_dop, r_dopg, r_dplq, r_dplh, r_dq, r_dq0, r_dcl1, r_dcl0, r_dct1, r_dct0, r_dgd, r_dgq1, r_dgq0, r_dctG, r_op1, r_eff, r_eff0, r_call, r_call0, r_inl, r_g, r_gq, r_gc, r_effg, r_effg0, r_callg, r_callg0, r_fin, r_pre, r_imp, r_all, r_ex, r_fing, r_preg, r_exg, r_inBlock, r_inLoop, r_frame, r_frame1, r_skip, r_region, r_seq, r_cond, r_cond1, r_block, r_exit, r_exit1, r_exit2, r_ret, r_loop, s_args0, s_args1, s_xt, s_xc, padL, blankL, callee, callArgs, eff, ctOf, getL, setL, S.put, S.upd, unopts, unopt, unoptsO, unoptsB, lazyO, guardOf, gbool, eMov, eNot, eNeg, eConv, eExt, eLenArr, eLen, eLenStr, eEqb, eEqv, allEq, eNil, negIf, eBool2, eCmp, eAri, ari, eBit, eDiv, eSh, eMinMax, foldMin, foldMax, kEq, pure1, cmpB, VO.quiet, resVals, resVal, tupled, popRet, popTo, cond, Option.bind, Option.map, eNew, eBox, asCells, lenH, snocH, eFieldAddr, eField, eLoad, cellsAt, getH, setH, dropL, takeL, mkAgg, lenL, lenS, shift, shiftL, shiftH, viewN, viewL, view, andT, junks, List.append_nil, Nat.beq, eIdxAddr, eIdxArr, eIndex, eStore, storeAt, spliceL, ones, one, eSlice, eSliceArr, bounds, subLo, addLo, eMake, eAppend, readS, repL, buildCells, chunk, purgeL, purgeLL, purgeH, purge, refs, refsL, List.cons_append, List.nil_append, wrOps, wrAl, wrDops, wrC, junkAt, putAll, putHs, headOf, headK, keepG, List.append_eq, headX, chkP, apartP, apartB, blk, strip, runAl, yld, putPs, lenN, findR, notRound, jumpK, jumpPT, jcode, List.map_cons, List.map_nil, ite_self, reduceIte]
    simp only [true_and, and_true, imp_self, implies_true, decide_eq_true_eq, decide_eq_false_iff_not, Nat.reduceAdd, Nat.reduceLeDiff, Bool.not_not, reduceCtorEq, false_imp_iff, Bool.not_eq_true', Bool.not_eq_false', Bool.false_eq_true, and_self, forall_const, ne_eq, not_false_eq_true, Nat.reduceEqDiff]
    refine ⟨by decide, [(0, 0), (6, 8), (9, 9)], ⟨⟨rfl, rfl, fun k hk => ?_⟩, by decide⟩, by decide, by decide, [(0, 0), (6, 8), (9, 9)], ⟨⟨rfl, rfl, fun k hk => ?_⟩, by decide⟩, by decide, by decide, [(0, 0), (6, 8), (9, 9)], ⟨⟨rfl, rfl, fun k hk => ?_⟩, by decide⟩, by decide, by decide, by decide, by decide, by decide, by decide, by decide, [(6, 8)], ⟨⟨rfl, rfl, fun k hk => ?_⟩, by decide⟩, by decide, by decide, ?_⟩
    · match k, hk with
      | 0, _ => exact leXL_self _
      | 1, _ => exact leXL_self _
      | 2, _ => exact leXL_self _
    · match k, hk with
      | 0, _ => exact leXL_self _
      | 1, _ => exact leXL_self _
      | 2, _ => exact leXL_self _
    · match k, hk with
      | 0, _ => exact leXL_self _
      | 1, _ => exact leXL_self _
      | 2, _ => exact leXL_self _
    · match k, hk with
      | 0, _ => exact leXL_self _
    · simp only [ex1, ex2, ex3, ex4, ex5]
      refine ⟨fun h => absurd h (by decide), fun _ => ⟨by decide, [(10, 11), (2, 5), (0, 0)], [(10, 11), (2, 5), (0, 0)], ⟨⟨rfl, rfl, fun k _ => leXL_self _⟩, ⟨rfl, rfl, fun k hk => ?_⟩, by decide⟩, fun _ => ⟨by decide, [(0, 0), (6, 8), (4, 8)], [(0, 0), (6, 8), (4, 8)], fun _ => ⟨⟨rfl, rfl, fun k _ => leXL_self _⟩, ⟨rfl, rfl, fun k hk => ?_⟩, by decide⟩, ans_bool ?_⟩, fun h => absurd rfl h⟩⟩
      · match k, hk with
        | 0, _ => exact leXL_self _
        | 1, _ => exact leXL_self _
        | 2, _ => exact leXL_self _
      · match k, hk with
        | 0, _ => exact leXL_self _
        | 1, _ => exact leXL_self _
        | 2, _ => exact leXL_self _
      · have h' : k (.bool true) [] := h
        simpa using h'
  · exact h.1.elim

def L1 : Env := { ct := fun n => match n with | 9 => some trueC | 10 => some runC | 11 => some rrunC | 12 => some givC | 13 => some rgivC | 14 => some failsC | 15 => some failsC | 16 => some belC | 17 => some belC | 18 => some same2C | 19 => some lastsC | 20 => some lastsC | 21 => some needC | 22 => some needC | 23 => some tickC | 26 => some ivC | _ => none, fn := fun _ => none, meth := fun _ _ => none }
theorem L1_ct9 : L1.ct 9 = some trueC := rfl
theorem L1_ct10 : L1.ct 10 = some runC := rfl
theorem L1_ct11 : L1.ct 11 = some rrunC := rfl
theorem L1_ct12 : L1.ct 12 = some givC := rfl
theorem L1_ct13 : L1.ct 13 = some rgivC := rfl
theorem L1_ct14 : L1.ct 14 = some failsC := rfl
theorem L1_ct15 : L1.ct 15 = some failsC := rfl
theorem L1_ct16 : L1.ct 16 = some belC := rfl
theorem L1_ct17 : L1.ct 17 = some belC := rfl
theorem L1_ct18 : L1.ct 18 = some same2C := rfl
theorem L1_ct19 : L1.ct 19 = some lastsC := rfl
theorem L1_ct20 : L1.ct 20 = some lastsC := rfl
theorem L1_ct21 : L1.ct 21 = some needC := rfl
theorem L1_ct22 : L1.ct 22 = some needC := rfl
theorem L1_ct23 : L1.ct 23 = some tickC := rfl
theorem L1_ct26 : L1.ct 26 = some ivC := rfl
theorem L1_ok : EnvOk Try.prog L1 := by
  refine ⟨fun f c h => ?_, fun f vf h => ?_, fun _ _ => rfl, by kernel_rfl⟩
  · simp only [L1] at h
    split at h
    · cases h; exact ⟨awake9, Try.f9, Try.func9, by kernel_rfl, by kernel_rfl⟩
    · cases h; exact ⟨run10, Try.f10, Try.func10, by kernel_rfl, by kernel_rfl⟩
    · cases h; exact ⟨run11, Try.f11, Try.func11, by kernel_rfl, by kernel_rfl⟩
    · cases h; exact ⟨giv12, Try.f12, Try.func12, by kernel_rfl, by kernel_rfl⟩
    · cases h; exact ⟨giv13, Try.f13, Try.func13, by kernel_rfl, by kernel_rfl⟩
    · cases h; exact ⟨fails14, Try.f14, Try.func14, by kernel_rfl, by kernel_rfl⟩
    · cases h; exact ⟨fails15, Try.f15, Try.func15, by kernel_rfl, by kernel_rfl⟩
    · cases h; exact ⟨bel16, Try.f16, Try.func16, by kernel_rfl, by kernel_rfl⟩
    · cases h; exact ⟨bel17, Try.f17, Try.func17, by kernel_rfl, by kernel_rfl⟩
    · cases h; exact ⟨same18, Try.f18, Try.func18, by kernel_rfl, by kernel_rfl⟩
    · cases h; exact ⟨lasts19, Try.f19, Try.func19, by kernel_rfl, by kernel_rfl⟩
    · cases h; exact ⟨lasts20, Try.f20, Try.func20, by kernel_rfl, by kernel_rfl⟩
    · cases h; exact ⟨need21, Try.f21, Try.func21, by kernel_rfl, by kernel_rfl⟩
    · cases h; exact ⟨need22, Try.f22, Try.func22, by kernel_rfl, by kernel_rfl⟩
    · cases h; exact ⟨tick23, Try.f23, Try.func23, by kernel_rfl, by kernel_rfl⟩
    · cases h; exact ⟨iv26, Try.f26, Try.func26, by kernel_rfl, by kernel_rfl⟩
    · cases h
  · cases h

end Go.Proofs.Ytliipeebknljdaa
