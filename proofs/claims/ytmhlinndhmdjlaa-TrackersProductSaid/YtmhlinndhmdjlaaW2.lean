/- Trackers: travels and touches. -/
import Derived.Test.YtmhlinndhmdjlaaW1
import Derived.Test.YtmhlinndhmdjlaaS3
set_option linter.all false
namespace Go.Proofs.Ytmhlinndhmdjlaa
open Go Go.Vx
set_option maxRecDepth 100000

def v28 : VF := { ntmps := 26, res := [.cell 6 true 2], body :=
 (.seq (.region [⟨(some 3), none, .box, [.tm 0]⟩,
  ⟨(some 6), none, (.alloc [(.int .i64 0), (.int .i64 0)]), []⟩])
 (.seq (.region [⟨(some 7), none, (.alloc [(.val .nilFunc)]), []⟩,
  ⟨(some 8), none, (.alloc [(.val .nilFunc)]), []⟩,
  ⟨none, none, (.store 1), [.tm 7, .cn (.fn (.func 44) [] [])]⟩,
  ⟨none, none, (.store 1), [.tm 8, .cn (.fn (.func 45) [] [])]⟩])
 (.seq (.region [⟨(some 11), none, .mov, [.tm 2]⟩,
  ⟨(some 12), none, (.build [(.int .i64 0), (.int .i64 0)] [(0, 1), (1, 1)]), [.tm 11, .cn (.int .i64 1)]⟩,
  ⟨(some 9), none, (.alloc [(.int .i64 0), (.int .i64 0)]), []⟩,
  ⟨none, none, (.store 2), [.tm 9, .tm 12]⟩])
 (.seq (.seq (.region [⟨(some 13), none, (.load true 3), [.tm 3]⟩,
  ⟨(some 14), none, .mov, [.tm 1]⟩,
  ⟨(some 15), none, (.call 33), [.tm 13, .tm 14, .cn (.bool false)]⟩])
 (.block 0 (.rangeFn (.tm 15) [16] (.region [⟨(some 10), none, (.alloc [(.int .i64 0), (.int .i64 0), (.int .i64 0), (.int .i64 0)]), []⟩,
  ⟨none, none, (.store 4), [.tm 10, .tm 16]⟩])
 (.block 1 (.draw [] [⟨⟨(some 17), none, (.load false 1), [.tm 8]⟩, []⟩,
  ⟨⟨(some 18), none, (.load false 1), [.tm 7]⟩, []⟩,
  ⟨⟨(some 19), none, (.load true 2), [.tm 9]⟩, []⟩,
  ⟨⟨(some 20), none, (.fieldAddr 2), [.tm 10]⟩, []⟩,
  ⟨⟨(some 21), none, (.load false 1), [.tm 20]⟩, []⟩,
  ⟨⟨(some 23), none, (.load true 4), [.tm 10]⟩, []⟩,
  ⟨⟨(some 22), none, .callv, [.tm 18, .tm 19, .tm 21]⟩, []⟩,
  ⟨⟨(some 24), none, .callv, [.tm 17, .tm 22, .tm 23]⟩, []⟩,
  ⟨⟨none, none, (.store 2), [.tm 9, .tm 24]⟩, []⟩])))))
 (.seq (.region [⟨(some 25), none, (.load true 2), [.tm 9]⟩,
  ⟨none, none, (.store 2), [.tm 6, .tm 25]⟩])
 .ret))))) }
theorem v28_is : vfunc Try.prog Try.f28 = some v28 := by kernel_rfl
def v33 : VF := { ntmps := 8, res := [.tmp 6], body :=
 (.seq (.region [⟨(some 3), none, .box, [.tm 0]⟩,
  ⟨(some 4), none, .box, [.tm 1]⟩,
  ⟨(some 5), none, .box, [.tm 2]⟩,
  ⟨(some 6), none, .mov, [.cn (.val .nilFunc)]⟩])
 (.seq (.region [⟨(some 7), none, (.mkfn (.func 47) 0), [.tm 3, .tm 5, .tm 4]⟩,
  ⟨(some 6), none, .mov, [.tm 7]⟩])
 .ret)) }
theorem v33_is : vfunc Try.prog Try.f33 = some v33 := by kernel_rfl
def v47 : VF := { ntmps := 41, res := [], body :=
 (.seq (.region [⟨(some 7), none, (.fieldAddr 0), [.tm 1]⟩,
  ⟨(some 8), none, (.load false 1), [.tm 7]⟩,
  ⟨(some 9), none, .len, [.tm 8]⟩,
  ⟨(some 10), none, .mov, [.cn (.int .i64 0)]⟩])
 (.block 0 (.loop (.seq (.region [⟨(some 11), none, (.cmp .lss), [.tm 10, .tm 9]⟩])
 (.seq (.cond (.tm 11) .skip
  (.exit 0))
 (.seq (.block 1 (.seq (.region [⟨(some 12), none, .mov, [.tm 10]⟩,
  ⟨(some 5), none, .mov, [.tm 12]⟩])
 (.seq (.seq (.region [⟨(some 13), none, (.load false 1), [.tm 2]⟩])
 (.cond (.tm 13) (.region [⟨(some 14), none, (.fieldAddr 0), [.tm 1]⟩,
  ⟨(some 15), none, (.load false 1), [.tm 14]⟩,
  ⟨(some 16), none, .len, [.tm 15]⟩,
  ⟨(some 17), none, (.ari .sub), [.tm 16, .cn (.int .i64 1)]⟩,
  ⟨(some 18), none, .mov, [.tm 5]⟩,
  ⟨(some 19), none, (.ari .sub), [.tm 17, .tm 18]⟩,
  ⟨(some 5), none, .mov, [.tm 19]⟩])
  .skip))
 (.seq (.region [⟨(some 20), none, (.fieldAddr 0), [.tm 1]⟩,
  ⟨(some 21), none, (.load false 1), [.tm 20]⟩,
  ⟨(some 22), none, .mov, [.tm 5]⟩,
  ⟨(some 23), none, (.idxAddr 4), [.tm 21, .tm 22]⟩,
  ⟨(some 24), none, (.load true 4), [.tm 23]⟩,
  ⟨(some 6), none, (.alloc [(.int .i64 0), (.int .i64 0), (.int .i64 0), (.int .i64 0)]), []⟩,
  ⟨none, none, (.store 4), [.tm 6, .tm 24]⟩])
 (.seq (.seq (.region [⟨(some 25), none, .mov, [.tm 5]⟩,
  ⟨(some 26), none, (.cmp .eql), [.tm 25, .cn (.int .i64 0)]⟩])
 (.cond (.tm 26) (.region [⟨(some 27), none, (.fieldAddr 2), [.tm 6]⟩,
  ⟨(some 28), none, (.load false 1), [.tm 27]⟩,
  ⟨(some 29), none, (.load false 1), [.tm 3]⟩,
  ⟨(some 30), none, (.fieldAddr 2), [.tm 1]⟩,
  ⟨(some 31), none, (.load false 1), [.tm 30]⟩,
  ⟨(some 32), none, (.ari .mul), [.tm 29, .tm 31]⟩,
  ⟨(some 33), none, (.ari .sub), [.tm 28, .tm 32]⟩,
  ⟨(some 34), none, .max, [.cn (.int .i64 0), .tm 33]⟩,
  ⟨(some 35), none, (.fieldAddr 2), [.tm 6]⟩,
  ⟨none, none, (.store 1), [.tm 35, .tm 34]⟩])
  .skip))
 (.seq (.region [⟨(some 36), none, .mov, [.tm 0]⟩,
  ⟨(some 37), none, (.load true 4), [.tm 6]⟩,
  ⟨(some 38), none, .callv, [.tm 36, .tm 37]⟩,
  ⟨(some 39), none, .not, [.tm 38]⟩])
 (.cond (.tm 39) .ret
  .skip)))))))
 (.region [⟨(some 40), none, (.ari .add), [.tm 10, .cn (.int .i64 1)]⟩,
  ⟨(some 10), none, .mov, [.tm 40]⟩]))))))) }
theorem v47_is : vfunc Try.prog Try.f47 = some v47 := by kernel_rfl


def E2 : Env := { ct := fun n => match n with | 13 => some chkC | 36 => some inC | 44 => some lessC | 45 => some timesC | 34 => some moreC | 29 => some ivC | _ => none, fn := fun n => match n with | 33 => some v33 | 47 => some v47 | _ => none, meth := fun _ _ => none }
theorem E2_ct13 : E2.ct 13 = some chkC := rfl
theorem E2_ct36 : E2.ct 36 = some inC := rfl
theorem E2_ct44 : E2.ct 44 = some lessC := rfl
theorem E2_ct45 : E2.ct 45 = some timesC := rfl
theorem E2_ct34 : E2.ct 34 = some moreC := rfl
theorem E2_ct29 : E2.ct 29 = some ivC := rfl
theorem E2_ct33 : E2.ct 33 = none := rfl
theorem E2_fn33 : E2.fn 33 = some v33 := rfl
theorem E2_ct47 : E2.ct 47 = none := rfl
theorem E2_fn47 : E2.fn 47 = some v47 := rfl
theorem E2_ok : EnvOk Try.prog E2 := by
  refine ⟨fun f c h => ?_, fun f vf h => ?_, fun _ _ => rfl, by kernel_rfl⟩
  · simp only [E2] at h
    split at h
    · cases h; exact ⟨chk13, Try.f13, Try.func13, by kernel_rfl, by kernel_rfl⟩
    · cases h; exact ⟨in36, Try.f36, Try.func36, by kernel_rfl, by kernel_rfl⟩
    · cases h; exact ⟨less44, Try.f44, Try.func44, by kernel_rfl, by kernel_rfl⟩
    · cases h; exact ⟨times45, Try.f45, Try.func45, by kernel_rfl, by kernel_rfl⟩
    · cases h; exact ⟨more34, Try.f34, Try.func34, by kernel_rfl, by kernel_rfl⟩
    · cases h; exact ⟨iv29, Try.f29, Try.func29, by kernel_rfl, by kernel_rfl⟩
    · cases h
  · simp only [E2] at h
    split at h
    · cases h; exact ⟨Try.f33, Try.func33, v33_is, Try.f33, Try.func33, by kernel_rfl, by kernel_rfl⟩
    · cases h; exact ⟨Try.f47, Try.func47, v47_is, Try.f47, Try.func47, by kernel_rfl, by kernel_rfl⟩
    · cases h


def travC : Ctr := { alias := false, of := fun l => match l with
  | [.agg [.vs _ _ n sz get, .int .i64 p, .int .i64 t], .int .i64 turns, .int .i64 key] => .ex (List Part) fun l => .pre ((sz = 4 ∧ n = l.length ∧ ∀ k, k < n → get k = enc (l.getD k default)) ∧ l.length ≤ 100) (.fin (.agg (encQ (travelF (adjL t turns l) ⟨key, 1⟩))) [])
  | _ => noC }

theorem trav28 : travC.ok Try.prog 28 := by
  refine contract Try.func28 v28_is E2_ok 400 travC fun args k h => ?_
  simp only [travC] at h
  split at h
  · rename_i tt z n sz get p t turns key
    obtain ⟨l, ⟨⟨rfl, rfl, hg⟩, h100⟩, h⟩ := h
    refine ⟨[.agg [.vs tt z l.length 4 (fun k => enc (l.getD k default)), .int .i64 p, .int .i64 t], .int .i64 turns, .int .i64 key], by simpa [leL, le] using fun k hk => leXL_eq (hg k hk), ?_⟩
    dsimp only [v28, E2_ct33, E2_fn33, v33, E2_fn47, v47, r_end, r_end1, r_nil, r_op, r_opg, r_runOp, r_op0, r_yld0, r_yld1, r_y, r_rbeg, r_rend, r_rend1, r_rfrm, r_rfrm1, r_range, r_rangeK, r_rangeE, r_draw, r_dnil, r_dop, r_dopg, r_dplq, r_dplh, r_dq, r_dq0, r_dcl1, r_dcl0, r_dct1, r_dct0, r_dgd, r_dgq1, r_dgq0, r_dctG, r_op1, r_eff, r_eff0, r_call, r_call0, r_inl, r_g, r_gq, r_gc, r_effg, r_effg0, r_callg, r_callg0, r_fin, r_pre, r_imp, r_all, r_ex, r_fing, r_preg, r_exg, r_inBlock, r_inLoop, r_frame, r_frame1, r_skip, r_region, r_seq, r_cond, r_cond1, r_block, r_exit, r_exit1, r_exit2, r_ret, r_loop, s_args0, s_args1, s_xt, s_xc, padL, blankL, callee, callArgs, eff, ctOf, getL, setL, S.put, S.upd, unopts, unopt, unoptsO, unoptsB, lazyO, guardOf, gbool, eMov, eNot, eNeg, eConv, eExt, eLenArr, eLen, eLenStr, eEqb, eEqv, allEq, eNil, negIf, eBool2, eCmp, eAri, ari, eBit, eDiv, eSh, eMinMax, foldMin, foldMax, kEq, pure1, cmpB, VO.quiet, resVals, resVal, tupled, popRet, popTo, cond, Option.bind, Option.map, eNew, eBox, asCells, lenH, snocH, eFieldAddr, eField, eLoad, cellsAt, getH, setH, dropL, takeL, mkAgg, lenL, lenS, shift, shiftL, shiftH, viewN, viewL, view, andT, junks, List.append_nil, Nat.beq, eIdxAddr, eIdxArr, eIndex, eStore, storeAt, spliceL, ones, one, eSlice, eSliceArr, bounds, subLo, addLo, eMake, eAppend, readS, repL, buildCells, chunk, purgeL, purgeLL, purgeH, purge, refs, refsL, List.cons_append, List.nil_append, wrOps, wrAl, wrDops, wrC, junkAt, putAll, putHs, headOf, headK, keepG, List.append_eq, headX, chkP, apartP, apartB, blk, strip, runAl, yld, putPs, lenN, findR, notRound, jumpK, jumpPT, jcode, List.map_cons, List.map_nil, ite_self, reduceIte]
    simp only [true_and, and_true, imp_self, implies_true, decide_eq_true_eq, decide_eq_false_iff_not, Nat.reduceAdd, Nat.reduceLeDiff, Bool.not_not, reduceCtorEq, false_imp_iff, Bool.not_eq_true', Bool.not_eq_false', Bool.false_eq_true, and_self, forall_const, ne_eq, not_false_eq_true, Nat.reduceEqDiff]
    intro lp
    refine Loop.at Nat (fun i => [(10, .int .i64 i)]) (fun i => [(4, .box (encQ (travelF ((adjL t turns l).take i) ⟨key, 1⟩)))]) [] (fun i => i ≤ l.length) (fun i => l.length - i) ?_ ?_
    · refine ⟨0, Nat.zero_le _, ?_⟩
      dsimp only [encQ, travelF, List.take_zero, List.foldl_nil, r_end, r_end1, r_nil, r_op, r_opg, r_runOp, r_op0, r_yld0, r_yld1, r_y, r_rbeg, r_rend, r_rend1, r_rfrm, r_rfrm1, r_range, r_rangeK, r_rangeE, r_draw, r_dnil, r_dop, r_dopg, r_dplq, r_dplh, r_dq, r_dq0, r_dcl1, r_dcl0, r_dct1, r_dct0, r_dgd, r_dgq1, r_dgq0, r_dctG, r_op1, r_eff, r_eff0, r_call, r_call0, r_inl, r_g, r_gq, r_gc, r_effg, r_effg0, r_callg, r_callg0, r_fin, r_pre, r_imp, r_all, r_ex, r_fing, r_preg, r_exg, r_inBlock, r_inLoop, r_frame, r_frame1, r_skip, r_region, r_seq, r_cond, r_cond1, r_block, r_exit, r_exit1, r_exit2, r_ret, r_loop, s_args0, s_args1, s_xt, s_xc, padL, blankL, callee, callArgs, eff, ctOf, getL, setL, S.put, S.upd, unopts, unopt, unoptsO, unoptsB, lazyO, guardOf, gbool, eMov, eNot, eNeg, eConv, eExt, eLenArr, eLen, eLenStr, eEqb, eEqv, allEq, eNil, negIf, eBool2, eCmp, eAri, ari, eBit, eDiv, eSh, eMinMax, foldMin, foldMax, kEq, pure1, cmpB, VO.quiet, resVals, resVal, tupled, popRet, popTo, cond, Option.bind, Option.map, eNew, eBox, asCells, lenH, snocH, eFieldAddr, eField, eLoad, cellsAt, getH, setH, dropL, takeL, mkAgg, lenL, lenS, shift, shiftL, shiftH, viewN, viewL, view, andT, junks, List.append_nil, Nat.beq, eIdxAddr, eIdxArr, eIndex, eStore, storeAt, spliceL, ones, one, eSlice, eSliceArr, bounds, subLo, addLo, eMake, eAppend, readS, repL, buildCells, chunk, purgeL, purgeLL, purgeH, purge, refs, refsL, List.cons_append, List.nil_append, wrOps, wrAl, wrDops, wrC, junkAt, putAll, putHs, headOf, headK, keepG, List.append_eq, headX, chkP, apartP, apartB, blk, strip, runAl, yld, putPs, lenN, findR, notRound, jumpK, jumpPT, jcode, List.map_cons, List.map_nil, ite_self, reduceIte]
      simp only [leS_mk, leL_cons, leL_nil, le_junk, le_int, le_bool, le_nil, leLL_nil, leLL_cons, leH_cons, leH_nil, leH1_box, leH1_own, leH1_gone, le_vs, le_agg, le_tup, le_ptr, le_own, le_xp, le_fn, le_opt, le_val, le_elem, le_nil_own, le_nil_vs, leH_ghost, leL_chunk, leXL_id, bnd_int, bnd_bool, bnd_val, bnd_nil, bnd_junk, bnd_vs, bnd_xp, bnd_agg, bnd_tup, bnd_ptr, bnd_own, bnd_elem, bnd_fn, bnd_iface, bnd_opt, bndL_nil, bndL_cons, lenH_cons, lenH_nil, imp_self, implies_true, true_and, and_true]
      simp
    · rintro i hi
      dsimp only [E2_ct44, lessC, E2_ct45, timesC, enc, encQ, Int.toNat_natCast, r_end, r_end1, r_nil, r_op, r_opg, r_runOp, r_op0, r_yld0, r_yld1, r_y, r_rbeg, r_rend, r_rend1, r_rfrm, r_rfrm1, r_range, r_rangeK, r_rangeE, r_draw, r_dnil, r_dop, r_dopg, r_dplq, r_dplh, r_dq, r_dq0, r_dcl1, r_dcl0, r_dct1, r_dct0, r_dgd, r_dgq1, r_dgq0, r_dctG, r_op1, r_eff, r_eff0, r_call, r_call0, r_inl, r_g, r_gq, r_gc, r_effg, r_effg0, r_callg, r_callg0, r_fin, r_pre, r_imp, r_all, r_ex, r_fing, r_preg, r_exg, r_inBlock, r_inLoop, r_frame, r_frame1, r_skip, r_region, r_seq, r_cond, r_cond1, r_block, r_exit, r_exit1, r_exit2, r_ret, r_loop, s_args0, s_args1, s_xt, s_xc, padL, blankL, callee, callArgs, eff, ctOf, getL, setL, S.put, S.upd, unopts, unopt, unoptsO, unoptsB, lazyO, guardOf, gbool, eMov, eNot, eNeg, eConv, eExt, eLenArr, eLen, eLenStr, eEqb, eEqv, allEq, eNil, negIf, eBool2, eCmp, eAri, ari, eBit, eDiv, eSh, eMinMax, foldMin, foldMax, kEq, pure1, cmpB, VO.quiet, resVals, resVal, tupled, popRet, popTo, cond, Option.bind, Option.map, eNew, eBox, asCells, lenH, snocH, eFieldAddr, eField, eLoad, cellsAt, getH, setH, dropL, takeL, mkAgg, lenL, lenS, shift, shiftL, shiftH, viewN, viewL, view, andT, junks, List.append_nil, Nat.beq, eIdxAddr, eIdxArr, eIndex, eStore, storeAt, spliceL, ones, one, eSlice, eSliceArr, bounds, subLo, addLo, eMake, eAppend, readS, repL, buildCells, chunk, purgeL, purgeLL, purgeH, purge, refs, refsL, List.cons_append, List.nil_append, wrOps, wrAl, wrDops, wrC, junkAt, putAll, putHs, headOf, headK, keepG, List.append_eq, headX, chkP, apartP, apartB, blk, strip, runAl, yld, putPs, lenN, findR, notRound, jumpK, jumpPT, jcode, List.map_cons, List.map_nil, ite_self, reduceIte]
      simp only [true_and, and_true, imp_self, implies_true, decide_eq_true_eq, decide_eq_false_iff_not, Nat.reduceAdd, Nat.reduceLeDiff, Bool.not_not, reduceCtorEq, false_imp_iff, Bool.not_eq_true', Bool.not_eq_false', Bool.false_eq_true, and_self, forall_const, ne_eq, not_false_eq_true, Nat.reduceEqDiff]
      refine ⟨fun hlt => ?_, fun hge => ?_⟩
      · have hil : i < l.length := by omega
        refine ⟨by omega, fun h0 => ?_, fun h0 => ?_⟩
        · obtain rfl : i = 0 := by omega
          refine ⟨0 + 1, by omega, by omega, ?_⟩
          rw [travel_succ (l := adjL t turns l) (i := 0) (by rw [adjL_len]; omega), adjL_zero t turns hil]
          have hw := w_succ (i := 0) (n := l.length) (by omega) (by omega)
          simp only [hw, leS_mk, leL_cons, leL_nil, le_junk, le_int, le_bool, le_nil, leLL_nil, leLL_cons, leH_cons, leH_nil, leH1_box, leH1_own, leH1_gone, le_vs, le_agg, le_tup, le_ptr, le_own, le_xp, le_fn, le_opt, le_val, le_elem, le_nil_own, le_nil_vs, leH_ghost, leL_chunk, leXL_id, bnd_int, bnd_bool, bnd_val, bnd_nil, bnd_junk, bnd_vs, bnd_xp, bnd_agg, bnd_tup, bnd_ptr, bnd_own, bnd_elem, bnd_fn, bnd_iface, bnd_opt, bndL_nil, bndL_cons, lenH_cons, lenH_nil, imp_self, implies_true, true_and, and_true]
          simp [adj, w6]
        · refine ⟨i + 1, by omega, by omega, ?_⟩
          rw [travel_succ (l := adjL t turns l) (by rw [adjL_len]; omega), adjL_succ t turns (by omega)]
          have hw := w_succ (i := i) (n := l.length) (by omega) (by omega)
          simp only [hw, leS_mk, leL_cons, leL_nil, le_junk, le_int, le_bool, le_nil, leLL_nil, leLL_cons, leH_cons, leH_nil, leH1_box, leH1_own, leH1_gone, le_vs, le_agg, le_tup, le_ptr, le_own, le_xp, le_fn, le_opt, le_val, le_elem, le_nil_own, le_nil_vs, leH_ghost, leL_chunk, leXL_id, bnd_int, bnd_bool, bnd_val, bnd_nil, bnd_junk, bnd_vs, bnd_xp, bnd_agg, bnd_tup, bnd_ptr, bnd_own, bnd_elem, bnd_fn, bnd_iface, bnd_opt, bndL_nil, bndL_cons, lenH_cons, lenH_nil, imp_self, implies_true, true_and, and_true]
          simp
      · refine ans_le (show k _ [] from h) ?_ ?_
        · rw [take_full (by rw [adjL_len]; omega)]
          simp [expo, view, viewL, le, leL, encQ]
        · simp [freshS, freshL, encQ]
  · exact h.1.elim

def v27 : VF := { ntmps := 24, res := [.tmp 6], body :=
 (.seq (.region [⟨(some 3), none, .box, [.tm 0]⟩,
  ⟨(some 6), none, .mov, [.cn (.int .i64 0)]⟩])
 (.seq (.seq (.region [⟨(some 8), none, (.load true 3), [.tm 3]⟩,
  ⟨(some 9), none, (.call 13), [.tm 8]⟩,
  ⟨(some 7), none, .mov, [.tm 9]⟩])
 (.seq (.region [⟨(some 10), none, .mov, [.tm 7]⟩,
  ⟨(some 11), none, (.cmp .neq), [.tm 10, .cn (.int .i64 0)]⟩])
 (.cond (.tm 11) (.seq (.region [⟨(some 12), none, .mov, [.tm 7]⟩,
  ⟨(some 6), none, .mov, [.tm 12]⟩])
 .ret)
  .skip)))
 (.seq (.seq (.region [⟨(some 13), none, .mov, [.tm 1]⟩,
  ⟨(some 14), none, (.cmp .lss), [.tm 13, .cn (.int .i64 0)]⟩,
  ⟨(some 15), none, .mov, [.tm 14]⟩,
  ⟨(some 16), (some (15, false)), .mov, [.tm 1]⟩,
  ⟨(some 17), (some (15, false)), (.cmp .gtr), [.tm 16, .cn (.int .i64 100)]⟩,
  ⟨(some 18), none, .or, [.tm 15, .tm 17]⟩,
  ⟨(some 19), none, .mov, [.tm 18]⟩,
  ⟨(some 20), (some (19, false)), .mov, [.tm 2]⟩,
  ⟨(some 21), (some (19, false)), (.call 36), [.tm 20, .cn (.int .i64 0), .cn (.int .i64 50000)]⟩,
  ⟨(some 22), (some (19, false)), .not, [.tm 21]⟩,
  ⟨(some 23), none, .or, [.tm 19, .tm 22]⟩])
 (.cond (.tm 23) (.seq (.region [⟨(some 6), none, .mov, [.cn (.int .i64 2)]⟩])
 .ret)
  .skip))
 (.seq (.region [⟨(some 6), none, .mov, [.cn (.int .i64 0)]⟩])
 .ret)))) }
theorem v27_is : vfunc Try.prog Try.f27 = some v27 := by kernel_rfl
def v30 : VF := { ntmps := 26, res := [.tmp 6], body :=
 (.seq (.region [⟨(some 3), none, .box, [.tm 0]⟩,
  ⟨(some 6), none, .mov, [.cn (.int .i64 0)]⟩])
 (.seq (.region [⟨(some 8), none, (.load true 3), [.tm 3]⟩,
  ⟨(some 9), none, (.call 14), [.tm 8]⟩,
  ⟨(some 7), none, .mov, [.tm 9]⟩])
 (.seq (.seq (.region [⟨(some 10), none, .mov, [.tm 7]⟩,
  ⟨(some 11), none, (.cmp .eql), [.tm 10, .cn (.int .i64 0)]⟩,
  ⟨(some 12), none, .mov, [.tm 11]⟩,
  ⟨(some 13), (some (12, true)), .mov, [.tm 1]⟩,
  ⟨(some 14), (some (12, true)), (.cmp .lss), [.tm 13, .cn (.int .i64 0)]⟩,
  ⟨(some 15), (some (12, true)), .mov, [.tm 14]⟩,
  ⟨(some 16), (some (15, false)), .mov, [.tm 1]⟩,
  ⟨(some 17), (some (15, false)), (.cmp .gtr), [.tm 16, .cn (.int .i64 100)]⟩,
  ⟨(some 18), (some (12, true)), .or, [.tm 15, .tm 17]⟩,
  ⟨(some 19), (some (12, true)), .mov, [.tm 18]⟩,
  ⟨(some 20), (some (19, false)), .mov, [.tm 2]⟩,
  ⟨(some 21), (some (19, false)), (.call 37), [.tm 20, .cn (.int .i64 0), .cn (.int .i64 50000)]⟩,
  ⟨(some 22), (some (19, false)), .not, [.tm 21]⟩,
  ⟨(some 23), (some (12, true)), .or, [.tm 19, .tm 22]⟩,
  ⟨(some 24), none, .and, [.tm 12, .tm 23]⟩])
 (.cond (.tm 24) (.region [⟨(some 7), none, .mov, [.cn (.int .i64 2)]⟩])
  .skip))
 (.seq (.region [⟨(some 25), none, .mov, [.tm 7]⟩,
  ⟨(some 6), none, .mov, [.tm 25]⟩])
 .ret)))) }
theorem v30_is : vfunc Try.prog Try.f30 = some v30 := by kernel_rfl
def v46 : VF := { ntmps := 26, res := [.tmp 6], body :=
 (.seq (.region [⟨(some 3), none, .box, [.tm 0]⟩,
  ⟨(some 6), none, .mov, [.cn (.int .i64 0)]⟩])
 (.seq (.seq (.region [⟨(some 7), none, .mov, [.tm 2]⟩,
  ⟨(some 8), none, (.cmp .gtr), [.tm 7, .cn (.int .i64 0)]⟩])
 (.cond (.tm 8) (.seq (.region [⟨(some 9), none, (.fieldAddr 0), [.tm 3]⟩,
  ⟨(some 10), none, (.load false 1), [.tm 9]⟩,
  ⟨(some 11), none, .mov, [.tm 2]⟩,
  ⟨(some 12), none, (.idxAddr 4), [.tm 10, .tm 11]⟩,
  ⟨(some 13), none, (.fieldAddr 2), [.tm 12]⟩,
  ⟨(some 14), none, (.load false 1), [.tm 13]⟩,
  ⟨(some 6), none, .mov, [.tm 14]⟩])
 .ret)
  .skip))
 (.seq (.draw [] [⟨⟨(some 15), none, (.fieldAddr 0), [.tm 3]⟩, []⟩,
  ⟨⟨(some 16), none, (.load false 1), [.tm 15]⟩, []⟩,
  ⟨⟨(some 17), none, (.idxAddr 4), [.tm 16, .cn (.int .i64 0)]⟩, []⟩,
  ⟨⟨(some 18), none, (.fieldAddr 2), [.tm 17]⟩, []⟩,
  ⟨⟨(some 19), none, (.load false 1), [.tm 18]⟩, []⟩,
  ⟨⟨(some 20), none, .mov, [.tm 1]⟩, []⟩,
  ⟨⟨(some 21), none, (.fieldAddr 2), [.tm 3]⟩, []⟩,
  ⟨⟨(some 22), none, (.load false 1), [.tm 21]⟩, []⟩,
  ⟨⟨(some 23), none, (.ari .mul), [.tm 20, .tm 22]⟩, []⟩,
  ⟨⟨(some 24), none, (.ari .sub), [.tm 19, .tm 23]⟩, []⟩,
  ⟨⟨(some 25), none, .max, [.cn (.int .i64 0), .tm 24]⟩, []⟩,
  ⟨⟨(some 6), none, .mov, [.tm 25]⟩, []⟩])
 .ret))) }
theorem v46_is : vfunc Try.prog Try.f46 = some v46 := by kernel_rfl
def v32 : VF := { ntmps := 50, res := [.cell 6 true 2], body :=
 (.seq (.region [⟨(some 3), none, .box, [.tm 0]⟩,
  ⟨(some 6), none, (.alloc [(.int .i64 0), (.int .i64 0)]), []⟩])
 (.seq (.region [⟨(some 9), none, .mov, [.tm 2]⟩,
  ⟨(some 10), none, (.build [(.int .i64 0), (.int .i64 0)] [(0, 1), (1, 1)]), [.tm 9, .cn (.int .i64 1)]⟩,
  ⟨(some 7), none, (.alloc [(.int .i64 0), (.int .i64 0)]), []⟩,
  ⟨none, none, (.store 2), [.tm 7, .tm 10]⟩])
 (.seq (.seq (.region [⟨(some 8), none, .mov, [.cn (.int .i64 0)]⟩])
 (.block 0 (.loop (.seq (.seq (.region [⟨(some 11), none, .mov, [.tm 8]⟩,
  ⟨(some 12), none, (.fieldAddr 0), [.tm 3]⟩,
  ⟨(some 13), none, (.load false 1), [.tm 12]⟩,
  ⟨(some 14), none, .len, [.tm 13]⟩,
  ⟨(some 15), none, (.cmp .lss), [.tm 11, .tm 14]⟩])
 (.cond (.tm 15) .skip
  (.exit 0)))
 (.seq (.block 1 (.seq (.draw [] [⟨⟨(some 18), none, (.fieldAddr 0), [.tm 7]⟩, []⟩,
  ⟨⟨(some 19), none, (.load false 1), [.tm 18]⟩, []⟩,
  ⟨⟨(some 20), none, (.load true 3), [.tm 3]⟩, []⟩,
  ⟨⟨(some 21), none, .mov, [.tm 1]⟩, []⟩,
  ⟨⟨(some 22), none, .mov, [.tm 8]⟩, []⟩,
  ⟨⟨(some 24), none, (.fieldAddr 1), [.tm 7]⟩, []⟩,
  ⟨⟨(some 25), none, (.load false 1), [.tm 24]⟩, []⟩,
  ⟨⟨(some 23), none, (.call 46), [.tm 20, .tm 21, .tm 22]⟩, []⟩,
  ⟨⟨(some 26), none, (.ari .mul), [.tm 23, .tm 25]⟩, []⟩,
  ⟨⟨(some 27), none, (.ari .sub), [.tm 19, .tm 26]⟩, []⟩,
  ⟨⟨(some 28), none, .max, [.cn (.int .i64 0), .tm 27]⟩, []⟩,
  ⟨⟨(some 29), none, (.fieldAddr 0), [.tm 7]⟩, []⟩,
  ⟨⟨none, none, (.store 1), [.tm 29, .tm 28]⟩, []⟩])
 (.draw [] [⟨⟨(some 30), none, (.fieldAddr 0), [.tm 7]⟩, []⟩,
  ⟨⟨(some 31), none, (.load false 1), [.tm 30]⟩, []⟩,
  ⟨⟨(some 32), none, (.fieldAddr 0), [.tm 3]⟩, []⟩,
  ⟨⟨(some 33), none, (.load false 1), [.tm 32]⟩, []⟩,
  ⟨⟨(some 34), none, .mov, [.tm 8]⟩, []⟩,
  ⟨⟨(some 35), none, (.idxAddr 4), [.tm 33, .tm 34]⟩, []⟩,
  ⟨⟨(some 36), none, (.fieldAddr 0), [.tm 35]⟩, []⟩,
  ⟨⟨(some 37), none, (.load false 1), [.tm 36]⟩, []⟩,
  ⟨⟨(some 38), none, (.ari .mul), [.tm 31, .tm 37]⟩, []⟩,
  ⟨⟨(some 39), none, (.fieldAddr 1), [.tm 7]⟩, []⟩,
  ⟨⟨(some 40), none, (.load false 1), [.tm 39]⟩, []⟩,
  ⟨⟨(some 41), none, (.fieldAddr 0), [.tm 3]⟩, []⟩,
  ⟨⟨(some 42), none, (.load false 1), [.tm 41]⟩, []⟩,
  ⟨⟨(some 43), none, .mov, [.tm 8]⟩, []⟩,
  ⟨⟨(some 44), none, (.idxAddr 4), [.tm 42, .tm 43]⟩, []⟩,
  ⟨⟨(some 45), none, (.fieldAddr 1), [.tm 44]⟩, []⟩,
  ⟨⟨(some 46), none, (.load false 1), [.tm 45]⟩, []⟩,
  ⟨⟨(some 47), none, (.ari .mul), [.tm 40, .tm 46]⟩, []⟩,
  ⟨⟨(some 48), none, (.build [(.int .i64 0), (.int .i64 0)] [(0, 1), (1, 1)]), [.tm 38, .tm 47]⟩, []⟩,
  ⟨⟨none, none, (.store 2), [.tm 7, .tm 48]⟩, []⟩])))
 (.region [⟨(some 16), none, .mov, [.tm 8]⟩,
  ⟨(some 17), none, (.ari .add), [.tm 16, .cn (.int .i64 1)]⟩,
  ⟨(some 8), none, .mov, [.tm 17]⟩]))))))
 (.seq (.region [⟨(some 49), none, (.load true 2), [.tm 7]⟩,
  ⟨none, none, (.store 2), [.tm 6, .tm 49]⟩])
 .ret)))) }
theorem v32_is : vfunc Try.prog Try.f32 = some v32 := by kernel_rfl


def askC : Ctr := { alias := false, of := fun l => match l with
  | [.agg [.vs _ _ n sz get, .int .i64 p, .int .i64 t], .int .i64 turns, .int .i64 x] => .ex (List Part) fun l => .pre (sz = 4 ∧ n = l.length ∧ ∀ k, k < n → get k = enc (l.getD k default)) (.fin (.int .i64 (askedF l p t turns x)) [])
  | _ => noC }

def E3 : Env := { ct := fun n => match n with | 13 => some chkC | 14 => some chkC | 36 => some inC | 37 => some inC | _ => none, fn := fun _ => none, meth := fun _ _ => none }
theorem E3_ct13 : E3.ct 13 = some chkC := rfl
theorem E3_ct14 : E3.ct 14 = some chkC := rfl
theorem E3_ct36 : E3.ct 36 = some inC := rfl
theorem E3_ct37 : E3.ct 37 = some inC := rfl
theorem E3_ok : EnvOk Try.prog E3 := by
  refine ⟨fun f c h => ?_, fun f vf h => ?_, fun _ _ => rfl, by kernel_rfl⟩
  · simp only [E3] at h
    split at h
    · cases h; exact ⟨chk13, Try.f13, Try.func13, by kernel_rfl, by kernel_rfl⟩
    · cases h; exact ⟨chk14, Try.f14, Try.func14, by kernel_rfl, by kernel_rfl⟩
    · cases h; exact ⟨in36, Try.f36, Try.func36, by kernel_rfl, by kernel_rfl⟩
    · cases h; exact ⟨in37, Try.f37, Try.func37, by kernel_rfl, by kernel_rfl⟩
    · cases h
  · cases h


theorem ask27 : askC.ok Try.prog 27 := by
  refine contract Try.func27 v27_is E3_ok 400 askC fun args k h => ?_
  simp only [askC] at h
  split at h
  · rename_i tt z n sz get p t turns x
    obtain ⟨l, ⟨rfl, rfl, hg⟩, h⟩ := h
    refine ⟨[.agg [.vs tt z l.length 4 (fun k => enc (l.getD k default)), .int .i64 p, .int .i64 t], .int .i64 turns, .int .i64 x], by simpa [leL, le] using fun k hk => leXL_eq (hg k hk), ?_⟩
    dsimp only [v27, E3_ct13, E3_ct36, chkC, chC, inC, enc, r_end, r_end1, r_nil, r_op, r_opg, r_runOp, r_op0, r_yld0, r_yld1, r_y, r_rbeg, r_rend, r_rend1, r_rfrm, r_rfrm1, r_range, r_rangeK, r_rangeE, r_draw, r_dnil, r_dop, r_dopg, r_dplq, r_dplh, r_dq, r_dq0, r_dcl1, r_dcl0, r_dct1, r_dct0, r_dgd, r_dgq1, r_dgq0, r_dctG, r_op1, r_eff, r_eff0, r_call, r_call0, r_inl, r_g, r_gq, r_gc, r_effg, r_effg0, r_callg, r_callg0, r_fin, r_pre, r_imp, r_all, r_ex, r_fing, r_preg, r_exg, r_inBlock, r_inLoop, r_frame, r_frame1, r_skip, r_region, r_seq, r_cond, r_cond1, r_block, r_exit, r_exit1, r_exit2, r_ret, r_loop, s_args0, s_args1, s_xt, s_xc, padL, blankL, callee, callArgs, eff, ctOf, getL, setL, S.put, S.upd, unopts, unopt, unoptsO, unoptsB, lazyO, guardOf, gbool, eMov, eNot, eNeg, eConv, eExt, eLenArr, eLen, eLenStr, eEqb, eEqv, allEq, eNil, negIf, eBool2, eCmp, eAri, ari, eBit, eDiv, eSh, eMinMax, foldMin, foldMax, kEq, pure1, cmpB, VO.quiet, resVals, resVal, tupled, popRet, popTo, cond, Option.bind, Option.map, eNew, eBox, asCells, lenH, snocH, eFieldAddr, eField, eLoad, cellsAt, getH, setH, dropL, takeL, mkAgg, lenL, lenS, shift, shiftL, shiftH, viewN, viewL, view, andT, junks, List.append_nil, Nat.beq, eIdxAddr, eIdxArr, eIndex, eStore, storeAt, spliceL, ones, one, eSlice, eSliceArr, bounds, subLo, addLo, eMake, eAppend, readS, repL, buildCells, chunk, purgeL, purgeLL, purgeH, purge, refs, refsL, List.cons_append, List.nil_append, wrOps, wrAl, wrDops, wrC, junkAt, putAll, putHs, headOf, headK, keepG, List.append_eq, headX, chkP, apartP, apartB, blk, strip, runAl, yld, putPs, lenN, findR, notRound, jumpK, jumpPT, jcode, List.map_cons, List.map_nil, ite_self, reduceIte]
    simp only [true_and, and_true, imp_self, implies_true, decide_eq_true_eq, decide_eq_false_iff_not, Nat.reduceAdd, Nat.reduceLeDiff, Bool.not_not, reduceCtorEq, false_imp_iff, Bool.not_eq_true', Bool.not_eq_false', Bool.false_eq_true, and_self, forall_const, ne_eq, not_false_eq_true, Nat.reduceEqDiff]
    refine ⟨l, ⟨rfl, fun _ _ => rfl⟩, fun hc => ans_int ?_, fun hc => ?_⟩
    · rw [asked_e hc] at h; exact h
    · exact ⟨fun hb => ans_int (by rw [asked_t hc hb] at h; exact h), fun hb => ans_int (by rw [asked_f hc hb] at h; exact h)⟩
  · exact h.1.elim

theorem ask30 : askC.ok Try.prog 30 := by
  refine contract Try.func30 v30_is E3_ok 400 askC fun args k h => ?_
  simp only [askC] at h
  split at h
  · rename_i tt z n sz get p t turns x
    obtain ⟨l, ⟨rfl, rfl, hg⟩, h⟩ := h
    refine ⟨[.agg [.vs tt z l.length 4 (fun k => enc (l.getD k default)), .int .i64 p, .int .i64 t], .int .i64 turns, .int .i64 x], by simpa [leL, le] using fun k hk => leXL_eq (hg k hk), ?_⟩
    dsimp only [v30, E3_ct14, E3_ct37, chkC, chC, inC, enc, r_end, r_end1, r_nil, r_op, r_opg, r_runOp, r_op0, r_yld0, r_yld1, r_y, r_rbeg, r_rend, r_rend1, r_rfrm, r_rfrm1, r_range, r_rangeK, r_rangeE, r_draw, r_dnil, r_dop, r_dopg, r_dplq, r_dplh, r_dq, r_dq0, r_dcl1, r_dcl0, r_dct1, r_dct0, r_dgd, r_dgq1, r_dgq0, r_dctG, r_op1, r_eff, r_eff0, r_call, r_call0, r_inl, r_g, r_gq, r_gc, r_effg, r_effg0, r_callg, r_callg0, r_fin, r_pre, r_imp, r_all, r_ex, r_fing, r_preg, r_exg, r_inBlock, r_inLoop, r_frame, r_frame1, r_skip, r_region, r_seq, r_cond, r_cond1, r_block, r_exit, r_exit1, r_exit2, r_ret, r_loop, s_args0, s_args1, s_xt, s_xc, padL, blankL, callee, callArgs, eff, ctOf, getL, setL, S.put, S.upd, unopts, unopt, unoptsO, unoptsB, lazyO, guardOf, gbool, eMov, eNot, eNeg, eConv, eExt, eLenArr, eLen, eLenStr, eEqb, eEqv, allEq, eNil, negIf, eBool2, eCmp, eAri, ari, eBit, eDiv, eSh, eMinMax, foldMin, foldMax, kEq, pure1, cmpB, VO.quiet, resVals, resVal, tupled, popRet, popTo, cond, Option.bind, Option.map, eNew, eBox, asCells, lenH, snocH, eFieldAddr, eField, eLoad, cellsAt, getH, setH, dropL, takeL, mkAgg, lenL, lenS, shift, shiftL, shiftH, viewN, viewL, view, andT, junks, List.append_nil, Nat.beq, eIdxAddr, eIdxArr, eIndex, eStore, storeAt, spliceL, ones, one, eSlice, eSliceArr, bounds, subLo, addLo, eMake, eAppend, readS, repL, buildCells, chunk, purgeL, purgeLL, purgeH, purge, refs, refsL, List.cons_append, List.nil_append, wrOps, wrAl, wrDops, wrC, junkAt, putAll, putHs, headOf, headK, keepG, List.append_eq, headX, chkP, apartP, apartB, blk, strip, runAl, yld, putPs, lenN, findR, notRound, jumpK, jumpPT, jcode, List.map_cons, List.map_nil, ite_self, reduceIte]
    simp only [true_and, and_true, imp_self, implies_true, decide_eq_true_eq, decide_eq_false_iff_not, Nat.reduceAdd, Nat.reduceLeDiff, Bool.not_not, reduceCtorEq, false_imp_iff, Bool.not_eq_true', Bool.not_eq_false', Bool.false_eq_true, and_self, forall_const, ne_eq, not_false_eq_true, Nat.reduceEqDiff]
    refine ⟨l, ⟨rfl, fun _ _ => rfl⟩, fun h1 h2 => by simp [h1, h2], fun h1 h2 => by simp [h1, h2], fun hc => ans_int ?_, fun hc => ans_int ?_⟩
    · rw [Bool.and_eq_true, decide_eq_true_eq] at hc
      rw [asked_t hc.1 hc.2] at h; exact h
    · by_cases h0 : checkF l p t = 0
      · rw [h0] at hc
        simp only [decide_true, Bool.true_and] at hc
        rw [h0]
        rw [asked_f h0 hc] at h; exact h
      · rw [asked_e h0] at h; exact h
  · exact h.1.elim

/-- The play of part i. -/
def playC : Ctr := { alias := false, of := fun l => match l with
  | [.agg [.vs _ _ n sz get, .int .i64 p, .int .i64 t], .int .i64 turns, .int .i64 i] => .ex (List Part) fun l => .pre ((sz = 4 ∧ n = l.length ∧ ∀ k, k < n → get k = enc (l.getD k default)) ∧ 0 ≤ i ∧ i < l.length) (.fin (.int .i64 ((adjL t turns l).getD i.toNat default).play) [])
  | _ => noC }

theorem play46 : playC.ok Try.prog 46 := by
  refine contract Try.func46 v46_is E3_ok 400 playC fun args k h => ?_
  simp only [playC] at h
  split at h
  · rename_i tt z n sz get p t turns i
    obtain ⟨l, ⟨⟨rfl, rfl, hg⟩, hi, hil⟩, h⟩ := h
    refine ⟨[.agg [.vs tt z l.length 4 (fun k => enc (l.getD k default)), .int .i64 p, .int .i64 t], .int .i64 turns, .int .i64 i], by simpa [leL, le] using fun k hk => leXL_eq (hg k hk), ?_⟩
    dsimp only [v46, enc, Int.toNat_zero, r_end, r_end1, r_nil, r_op, r_opg, r_runOp, r_op0, r_yld0, r_yld1, r_y, r_rbeg, r_rend, r_rend1, r_rfrm, r_rfrm1, r_range, r_rangeK, r_rangeE, r_draw, r_dnil, r_dop, r_dopg, r_dplq, r_dplh, r_dq, r_dq0, r_dcl1, r_dcl0, r_dct1, r_dct0, r_dgd, r_dgq1, r_dgq0, r_dctG, r_op1, r_eff, r_eff0, r_call, r_call0, r_inl, r_g, r_gq, r_gc, r_effg, r_effg0, r_callg, r_callg0, r_fin, r_pre, r_imp, r_all, r_ex, r_fing, r_preg, r_exg, r_inBlock, r_inLoop, r_frame, r_frame1, r_skip, r_region, r_seq, r_cond, r_cond1, r_block, r_exit, r_exit1, r_exit2, r_ret, r_loop, s_args0, s_args1, s_xt, s_xc, padL, blankL, callee, callArgs, eff, ctOf, getL, setL, S.put, S.upd, unopts, unopt, unoptsO, unoptsB, lazyO, guardOf, gbool, eMov, eNot, eNeg, eConv, eExt, eLenArr, eLen, eLenStr, eEqb, eEqv, allEq, eNil, negIf, eBool2, eCmp, eAri, ari, eBit, eDiv, eSh, eMinMax, foldMin, foldMax, kEq, pure1, cmpB, VO.quiet, resVals, resVal, tupled, popRet, popTo, cond, Option.bind, Option.map, eNew, eBox, asCells, lenH, snocH, eFieldAddr, eField, eLoad, cellsAt, getH, setH, dropL, takeL, mkAgg, lenL, lenS, shift, shiftL, shiftH, viewN, viewL, view, andT, junks, List.append_nil, Nat.beq, eIdxAddr, eIdxArr, eIndex, eStore, storeAt, spliceL, ones, one, eSlice, eSliceArr, bounds, subLo, addLo, eMake, eAppend, readS, repL, buildCells, chunk, purgeL, purgeLL, purgeH, purge, refs, refsL, List.cons_append, List.nil_append, wrOps, wrAl, wrDops, wrC, junkAt, putAll, putHs, headOf, headK, keepG, List.append_eq, headX, chkP, apartP, apartB, blk, strip, runAl, yld, putPs, lenN, findR, notRound, jumpK, jumpPT, jcode, List.map_cons, List.map_nil, ite_self, reduceIte]
    simp only [true_and, and_true, imp_self, implies_true, decide_eq_true_eq, decide_eq_false_iff_not, Nat.reduceAdd, Nat.reduceLeDiff, Bool.not_not, reduceCtorEq, false_imp_iff, Bool.not_eq_true', Bool.not_eq_false', Bool.false_eq_true, and_self, forall_const, ne_eq, not_false_eq_true, Nat.reduceEqDiff]
    refine ⟨fun h0 => ⟨⟨hi, hil⟩, ans_int ?_⟩, fun h0 => ⟨⟨by omega, by omega⟩, ans_int ?_⟩⟩
    · rw [adjL_succ t turns (by omega)] at h
      exact h
    · obtain rfl : i = 0 := by omega
      rw [Int.toNat_zero, adjL_zero t turns (by omega)] at h
      exact h
  · exact h.1.elim

def E4 : Env := { ct := fun n => match n with | 46 => some playC | _ => none, fn := fun _ => none, meth := fun _ _ => none }
theorem E4_ct46 : E4.ct 46 = some playC := rfl
theorem E4_ok : EnvOk Try.prog E4 := by
  refine ⟨fun f c h => ?_, fun f vf h => ?_, fun _ _ => rfl, by kernel_rfl⟩
  · simp only [E4] at h
    split at h
    · cases h; exact ⟨play46, Try.f46, Try.func46, by kernel_rfl, by kernel_rfl⟩
    · cases h
  · cases h


theorem trav32 : travC.ok Try.prog 32 := by
  refine contract Try.func32 v32_is E4_ok 400 travC fun args k h => ?_
  simp only [travC] at h
  split at h
  · rename_i tt z n sz get p t turns key
    obtain ⟨l, ⟨⟨rfl, rfl, hg⟩, h100⟩, h⟩ := h
    refine ⟨[.agg [.vs tt z l.length 4 (fun k => enc (l.getD k default)), .int .i64 p, .int .i64 t], .int .i64 turns, .int .i64 key], by simpa [leL, le] using fun k hk => leXL_eq (hg k hk), ?_⟩
    dsimp only [v32, r_end, r_end1, r_nil, r_op, r_opg, r_runOp, r_op0, r_yld0, r_yld1, r_y, r_rbeg, r_rend, r_rend1, r_rfrm, r_rfrm1, r_range, r_rangeK, r_rangeE, r_draw, r_dnil, r_dop, r_dopg, r_dplq, r_dplh, r_dq, r_dq0, r_dcl1, r_dcl0, r_dct1, r_dct0, r_dgd, r_dgq1, r_dgq0, r_dctG, r_op1, r_eff, r_eff0, r_call, r_call0, r_inl, r_g, r_gq, r_gc, r_effg, r_effg0, r_callg, r_callg0, r_fin, r_pre, r_imp, r_all, r_ex, r_fing, r_preg, r_exg, r_inBlock, r_inLoop, r_frame, r_frame1, r_skip, r_region, r_seq, r_cond, r_cond1, r_block, r_exit, r_exit1, r_exit2, r_ret, r_loop, s_args0, s_args1, s_xt, s_xc, padL, blankL, callee, callArgs, eff, ctOf, getL, setL, S.put, S.upd, unopts, unopt, unoptsO, unoptsB, lazyO, guardOf, gbool, eMov, eNot, eNeg, eConv, eExt, eLenArr, eLen, eLenStr, eEqb, eEqv, allEq, eNil, negIf, eBool2, eCmp, eAri, ari, eBit, eDiv, eSh, eMinMax, foldMin, foldMax, kEq, pure1, cmpB, VO.quiet, resVals, resVal, tupled, popRet, popTo, cond, Option.bind, Option.map, eNew, eBox, asCells, lenH, snocH, eFieldAddr, eField, eLoad, cellsAt, getH, setH, dropL, takeL, mkAgg, lenL, lenS, shift, shiftL, shiftH, viewN, viewL, view, andT, junks, List.append_nil, Nat.beq, eIdxAddr, eIdxArr, eIndex, eStore, storeAt, spliceL, ones, one, eSlice, eSliceArr, bounds, subLo, addLo, eMake, eAppend, readS, repL, buildCells, chunk, purgeL, purgeLL, purgeH, purge, refs, refsL, List.cons_append, List.nil_append, wrOps, wrAl, wrDops, wrC, junkAt, putAll, putHs, headOf, headK, keepG, List.append_eq, headX, chkP, apartP, apartB, blk, strip, runAl, yld, putPs, lenN, findR, notRound, jumpK, jumpPT, jcode, List.map_cons, List.map_nil, ite_self, reduceIte]
    simp only [true_and, and_true, imp_self, implies_true, decide_eq_true_eq, decide_eq_false_iff_not, Nat.reduceAdd, Nat.reduceLeDiff, Bool.not_not, reduceCtorEq, false_imp_iff, Bool.not_eq_true', Bool.not_eq_false', Bool.false_eq_true, and_self, forall_const, ne_eq, not_false_eq_true, Nat.reduceEqDiff]
    refine Loop.at Nat (fun i => [(8, .int .i64 i)]) (fun i => [(2, .box (encQ (travelF ((adjL t turns l).take i) ⟨key, 1⟩)))]) [] (fun i => i ≤ l.length) (fun i => l.length - i) ?_ ?_
    · refine ⟨0, Nat.zero_le _, ?_⟩
      dsimp only [encQ, travelF, List.take_zero, List.foldl_nil, r_end, r_end1, r_nil, r_op, r_opg, r_runOp, r_op0, r_yld0, r_yld1, r_y, r_rbeg, r_rend, r_rend1, r_rfrm, r_rfrm1, r_range, r_rangeK, r_rangeE, r_draw, r_dnil, r_dop, r_dopg, r_dplq, r_dplh, r_dq, r_dq0, r_dcl1, r_dcl0, r_dct1, r_dct0, r_dgd, r_dgq1, r_dgq0, r_dctG, r_op1, r_eff, r_eff0, r_call, r_call0, r_inl, r_g, r_gq, r_gc, r_effg, r_effg0, r_callg, r_callg0, r_fin, r_pre, r_imp, r_all, r_ex, r_fing, r_preg, r_exg, r_inBlock, r_inLoop, r_frame, r_frame1, r_skip, r_region, r_seq, r_cond, r_cond1, r_block, r_exit, r_exit1, r_exit2, r_ret, r_loop, s_args0, s_args1, s_xt, s_xc, padL, blankL, callee, callArgs, eff, ctOf, getL, setL, S.put, S.upd, unopts, unopt, unoptsO, unoptsB, lazyO, guardOf, gbool, eMov, eNot, eNeg, eConv, eExt, eLenArr, eLen, eLenStr, eEqb, eEqv, allEq, eNil, negIf, eBool2, eCmp, eAri, ari, eBit, eDiv, eSh, eMinMax, foldMin, foldMax, kEq, pure1, cmpB, VO.quiet, resVals, resVal, tupled, popRet, popTo, cond, Option.bind, Option.map, eNew, eBox, asCells, lenH, snocH, eFieldAddr, eField, eLoad, cellsAt, getH, setH, dropL, takeL, mkAgg, lenL, lenS, shift, shiftL, shiftH, viewN, viewL, view, andT, junks, List.append_nil, Nat.beq, eIdxAddr, eIdxArr, eIndex, eStore, storeAt, spliceL, ones, one, eSlice, eSliceArr, bounds, subLo, addLo, eMake, eAppend, readS, repL, buildCells, chunk, purgeL, purgeLL, purgeH, purge, refs, refsL, List.cons_append, List.nil_append, wrOps, wrAl, wrDops, wrC, junkAt, putAll, putHs, headOf, headK, keepG, List.append_eq, headX, chkP, apartP, apartB, blk, strip, runAl, yld, putPs, lenN, findR, notRound, jumpK, jumpPT, jcode, List.map_cons, List.map_nil, ite_self, reduceIte]
      simp only [leS_mk, leL_cons, leL_nil, le_junk, le_int, le_bool, le_nil, leLL_nil, leLL_cons, leH_cons, leH_nil, leH1_box, leH1_own, leH1_gone, le_vs, le_agg, le_tup, le_ptr, le_own, le_xp, le_fn, le_opt, le_val, le_elem, le_nil_own, le_nil_vs, leH_ghost, leL_chunk, leXL_id, bnd_int, bnd_bool, bnd_val, bnd_nil, bnd_junk, bnd_vs, bnd_xp, bnd_agg, bnd_tup, bnd_ptr, bnd_own, bnd_elem, bnd_fn, bnd_iface, bnd_opt, bndL_nil, bndL_cons, lenH_cons, lenH_nil, imp_self, implies_true, true_and, and_true]
      simp
    · rintro i hi
      dsimp only [E4_ct46, playC, enc, encQ, Int.toNat_natCast, r_end, r_end1, r_nil, r_op, r_opg, r_runOp, r_op0, r_yld0, r_yld1, r_y, r_rbeg, r_rend, r_rend1, r_rfrm, r_rfrm1, r_range, r_rangeK, r_rangeE, r_draw, r_dnil, r_dop, r_dopg, r_dplq, r_dplh, r_dq, r_dq0, r_dcl1, r_dcl0, r_dct1, r_dct0, r_dgd, r_dgq1, r_dgq0, r_dctG, r_op1, r_eff, r_eff0, r_call, r_call0, r_inl, r_g, r_gq, r_gc, r_effg, r_effg0, r_callg, r_callg0, r_fin, r_pre, r_imp, r_all, r_ex, r_fing, r_preg, r_exg, r_inBlock, r_inLoop, r_frame, r_frame1, r_skip, r_region, r_seq, r_cond, r_cond1, r_block, r_exit, r_exit1, r_exit2, r_ret, r_loop, s_args0, s_args1, s_xt, s_xc, padL, blankL, callee, callArgs, eff, ctOf, getL, setL, S.put, S.upd, unopts, unopt, unoptsO, unoptsB, lazyO, guardOf, gbool, eMov, eNot, eNeg, eConv, eExt, eLenArr, eLen, eLenStr, eEqb, eEqv, allEq, eNil, negIf, eBool2, eCmp, eAri, ari, eBit, eDiv, eSh, eMinMax, foldMin, foldMax, kEq, pure1, cmpB, VO.quiet, resVals, resVal, tupled, popRet, popTo, cond, Option.bind, Option.map, eNew, eBox, asCells, lenH, snocH, eFieldAddr, eField, eLoad, cellsAt, getH, setH, dropL, takeL, mkAgg, lenL, lenS, shift, shiftL, shiftH, viewN, viewL, view, andT, junks, List.append_nil, Nat.beq, eIdxAddr, eIdxArr, eIndex, eStore, storeAt, spliceL, ones, one, eSlice, eSliceArr, bounds, subLo, addLo, eMake, eAppend, readS, repL, buildCells, chunk, purgeL, purgeLL, purgeH, purge, refs, refsL, List.cons_append, List.nil_append, wrOps, wrAl, wrDops, wrC, junkAt, putAll, putHs, headOf, headK, keepG, List.append_eq, headX, chkP, apartP, apartB, blk, strip, runAl, yld, putPs, lenN, findR, notRound, jumpK, jumpPT, jcode, List.map_cons, List.map_nil, ite_self, reduceIte]
      simp only [true_and, and_true, imp_self, implies_true, decide_eq_true_eq, decide_eq_false_iff_not, Nat.reduceAdd, Nat.reduceLeDiff, Bool.not_not, reduceCtorEq, false_imp_iff, Bool.not_eq_true', Bool.not_eq_false', Bool.false_eq_true, and_self, forall_const, ne_eq, not_false_eq_true, Nat.reduceEqDiff]
      refine ⟨fun hlt => ?_, fun hge => ?_⟩
      · have hil : i < l.length := by omega
        refine ⟨l, ⟨⟨rfl, fun _ _ => rfl⟩, by omega, by omega⟩, by omega, by omega, i + 1, by omega, by omega, ?_⟩
        rw [travel_succ (l := adjL t turns l) (by rw [adjL_len]; omega)]
        have hw := w_succ (i := i) (n := l.length) (by omega) (by omega)
        obtain ⟨a1, a2, _⟩ := adjL_same t turns l i
        simp only [hw, leS_mk, leL_cons, leL_nil, le_junk, le_int, le_bool, le_nil, leLL_nil, leLL_cons, leH_cons, leH_nil, leH1_box, leH1_own, leH1_gone, le_vs, le_agg, le_tup, le_ptr, le_own, le_xp, le_fn, le_opt, le_val, le_elem, le_nil_own, le_nil_vs, leH_ghost, leL_chunk, leXL_id, bnd_int, bnd_bool, bnd_val, bnd_nil, bnd_junk, bnd_vs, bnd_xp, bnd_agg, bnd_tup, bnd_ptr, bnd_own, bnd_elem, bnd_fn, bnd_iface, bnd_opt, bndL_nil, bndL_cons, lenH_cons, lenH_nil, imp_self, implies_true, true_and, and_true]
        simp only [timesF, lessF, w6, a1, a2]
        simp
      · refine ans_le (show k _ [] from h) ?_ ?_
        · rw [take_full (by rw [adjL_len]; omega)]
          simp [expo, view, viewL, le, leL, encQ]
        · simp [freshS, freshL, encQ]
  · exact h.1.elim

def v42 : VF := { ntmps := 18, res := [.cell 2 true 2], body :=
 (.seq (.region [⟨(some 1), none, .box, [.tm 0]⟩,
  ⟨(some 2), none, (.alloc [(.int .i64 0), (.int .i64 0)]), []⟩])
 (.seq (.region [⟨(some 5), none, (.fieldAddr 1), [.tm 1]⟩,
  ⟨(some 6), none, (.load false 1), [.tm 5]⟩,
  ⟨(some 7), none, (.build [(.int .i64 0), (.int .i64 0)] [(0, 1), (1, 1)]), [.tm 6, .cn (.int .i64 1)]⟩,
  ⟨(some 3), none, (.alloc [(.int .i64 0), (.int .i64 0)]), []⟩,
  ⟨none, none, (.store 2), [.tm 3, .tm 7]⟩])
 (.seq (.seq (.region [⟨(some 8), none, (.load true 3), [.tm 1]⟩,
  ⟨(some 9), none, (.call 33), [.tm 8, .cn (.int .i64 0), .cn (.bool true)]⟩])
 (.block 0 (.rangeFn (.tm 9) [10] (.region [⟨(some 4), none, (.alloc [(.int .i64 0), (.int .i64 0), (.int .i64 0), (.int .i64 0)]), []⟩,
  ⟨none, none, (.store 4), [.tm 4, .tm 10]⟩])
 (.block 1 (.draw [] [⟨⟨(some 11), none, (.load true 2), [.tm 3]⟩, []⟩,
  ⟨⟨(some 12), none, (.load true 4), [.tm 4]⟩, []⟩,
  ⟨⟨(some 14), none, (.fieldAddr 3), [.tm 4]⟩, []⟩,
  ⟨⟨(some 15), none, (.load false 1), [.tm 14]⟩, []⟩,
  ⟨⟨(some 13), none, (.call 45), [.tm 11, .tm 12]⟩, []⟩,
  ⟨⟨(some 16), none, (.call 34), [.tm 13, .tm 15]⟩, []⟩,
  ⟨⟨none, none, (.store 2), [.tm 3, .tm 16]⟩, []⟩])))))
 (.seq (.region [⟨(some 17), none, (.load true 2), [.tm 3]⟩,
  ⟨none, none, (.store 2), [.tm 2, .tm 17]⟩])
 .ret)))) }
theorem v42_is : vfunc Try.prog Try.f42 = some v42 := by kernel_rfl
def v43 : VF := { ntmps := 43, res := [.cell 2 true 2], body :=
 (.seq (.region [⟨(some 1), none, .box, [.tm 0]⟩,
  ⟨(some 2), none, (.alloc [(.int .i64 0), (.int .i64 0)]), []⟩])
 (.seq (.region [⟨(some 6), none, (.fieldAddr 1), [.tm 1]⟩,
  ⟨(some 7), none, (.load false 1), [.tm 6]⟩,
  ⟨(some 8), none, (.build [(.int .i64 0), (.int .i64 0)] [(0, 1), (1, 1)]), [.tm 7, .cn (.int .i64 1)]⟩,
  ⟨(some 3), none, (.alloc [(.int .i64 0), (.int .i64 0)]), []⟩,
  ⟨none, none, (.store 2), [.tm 3, .tm 8]⟩])
 (.seq (.seq (.region [⟨(some 9), none, (.fieldAddr 0), [.tm 1]⟩,
  ⟨(some 10), none, (.load false 1), [.tm 9]⟩,
  ⟨(some 11), none, .len, [.tm 10]⟩,
  ⟨(some 12), none, (.ari .sub), [.tm 11, .cn (.int .i64 1)]⟩,
  ⟨(some 4), none, .mov, [.tm 12]⟩])
 (.block 0 (.loop (.seq (.seq (.region [⟨(some 13), none, .mov, [.tm 4]⟩,
  ⟨(some 14), none, (.cmp .geq), [.tm 13, .cn (.int .i64 0)]⟩])
 (.cond (.tm 14) .skip
  (.exit 0)))
 (.seq (.block 1 (.seq (.region [⟨(some 17), none, (.fieldAddr 0), [.tm 1]⟩,
  ⟨(some 18), none, (.load false 1), [.tm 17]⟩,
  ⟨(some 19), none, .mov, [.tm 4]⟩,
  ⟨(some 20), none, (.idxAddr 4), [.tm 18, .tm 19]⟩,
  ⟨(some 21), none, (.load true 4), [.tm 20]⟩,
  ⟨(some 5), none, (.alloc [(.int .i64 0), (.int .i64 0), (.int .i64 0), (.int .i64 0)]), []⟩,
  ⟨none, none, (.store 4), [.tm 5, .tm 21]⟩])
 (.seq (.region [⟨(some 22), none, (.fieldAddr 0), [.tm 3]⟩,
  ⟨(some 23), none, (.load false 1), [.tm 22]⟩,
  ⟨(some 24), none, (.fieldAddr 0), [.tm 5]⟩,
  ⟨(some 25), none, (.load false 1), [.tm 24]⟩,
  ⟨(some 26), none, (.ari .mul), [.tm 23, .tm 25]⟩,
  ⟨(some 27), none, (.fieldAddr 1), [.tm 3]⟩,
  ⟨(some 28), none, (.load false 1), [.tm 27]⟩,
  ⟨(some 29), none, (.fieldAddr 1), [.tm 5]⟩,
  ⟨(some 30), none, (.load false 1), [.tm 29]⟩,
  ⟨(some 31), none, (.ari .mul), [.tm 28, .tm 30]⟩,
  ⟨(some 32), none, (.build [(.int .i64 0), (.int .i64 0)] [(0, 1), (1, 1)]), [.tm 26, .tm 31]⟩,
  ⟨none, none, (.store 2), [.tm 3, .tm 32]⟩])
 (.region [⟨(some 33), none, (.fieldAddr 0), [.tm 3]⟩,
  ⟨(some 34), none, (.load false 1), [.tm 33]⟩,
  ⟨(some 35), none, (.fieldAddr 3), [.tm 5]⟩,
  ⟨(some 36), none, (.load false 1), [.tm 35]⟩,
  ⟨(some 37), none, (.fieldAddr 1), [.tm 3]⟩,
  ⟨(some 38), none, (.load false 1), [.tm 37]⟩,
  ⟨(some 39), none, (.ari .mul), [.tm 36, .tm 38]⟩,
  ⟨(some 40), none, (.ari .add), [.tm 34, .tm 39]⟩,
  ⟨(some 41), none, (.fieldAddr 0), [.tm 3]⟩,
  ⟨none, none, (.store 1), [.tm 41, .tm 40]⟩]))))
 (.region [⟨(some 15), none, .mov, [.tm 4]⟩,
  ⟨(some 16), none, (.ari .sub), [.tm 15, .cn (.int .i64 1)]⟩,
  ⟨(some 4), none, .mov, [.tm 16]⟩]))))))
 (.seq (.region [⟨(some 42), none, (.load true 2), [.tm 3]⟩,
  ⟨none, none, (.store 2), [.tm 2, .tm 42]⟩])
 .ret)))) }
theorem v43_is : vfunc Try.prog Try.f43 = some v43 := by kernel_rfl
def v35 : VF := { ntmps := 21, res := [.tmp 8], body :=
 (.seq (.region [⟨(some 4), none, .box, [.tm 0]⟩,
  ⟨(some 8), none, .mov, [.cn (.bool false)]⟩])
 (.seq (.region [⟨(some 10), none, (.load true 3), [.tm 4]⟩,
  ⟨(some 11), none, .mov, [.tm 1]⟩,
  ⟨(some 12), none, .mov, [.tm 2]⟩,
  ⟨(some 13), none, (.call 32), [.tm 10, .tm 11, .tm 12]⟩,
  ⟨(some 9), none, (.alloc [(.int .i64 0), (.int .i64 0)]), []⟩,
  ⟨none, none, (.store 2), [.tm 9, .tm 13]⟩])
 (.seq (.region [⟨(some 14), none, (.fieldAddr 0), [.tm 9]⟩,
  ⟨(some 15), none, (.load false 1), [.tm 14]⟩,
  ⟨(some 16), none, .mov, [.tm 3]⟩,
  ⟨(some 17), none, (.fieldAddr 1), [.tm 9]⟩,
  ⟨(some 18), none, (.load false 1), [.tm 17]⟩,
  ⟨(some 19), none, (.ari .mul), [.tm 16, .tm 18]⟩,
  ⟨(some 20), none, (.cmp .geq), [.tm 15, .tm 19]⟩,
  ⟨(some 8), none, .mov, [.tm 20]⟩])
 .ret))) }
theorem v35_is : vfunc Try.prog Try.f35 = some v35 := by kernel_rfl


def touC : Ctr := { alias := false, of := fun l => match l with
  | [.agg [.vs _ _ n sz get, .int .i64 p, .int .i64 t]] => .ex (List Part) fun l => .pre ((sz = 4 ∧ n = l.length ∧ ∀ k, k < n → get k = enc (l.getD k default)) ∧ l.length ≤ 100) (.fin (.agg (encQ (touchF l.reverse ⟨p, 1⟩))) [])
  | _ => noC }

theorem tou42 : touC.ok Try.prog 42 := by
  refine contract Try.func42 v42_is E2_ok 400 touC fun args k h => ?_
  simp only [touC] at h
  split at h
  · rename_i tt z n sz get p t
    obtain ⟨l, ⟨⟨rfl, rfl, hg⟩, h100⟩, h⟩ := h
    refine ⟨[.agg [.vs tt z l.length 4 (fun k => enc (l.getD k default)), .int .i64 p, .int .i64 t]], by simpa [leL, le] using fun k hk => leXL_eq (hg k hk), ?_⟩
    dsimp only [v42, E2_ct33, E2_fn33, v33, E2_fn47, v47, r_end, r_end1, r_nil, r_op, r_opg, r_runOp, r_op0, r_yld0, r_yld1, r_y, r_rbeg, r_rend, r_rend1, r_rfrm, r_rfrm1, r_range, r_rangeK, r_rangeE, r_draw, r_dnil, r_dop, r_dopg, r_dplq, r_dplh, r_dq, r_dq0, r_dcl1, r_dcl0, r_dct1, r_dct0, r_dgd, r_dgq1, r_dgq0, r_dctG, r_op1, r_eff, r_eff0, r_call, r_call0, r_inl, r_g, r_gq, r_gc, r_effg, r_effg0, r_callg, r_callg0, r_fin, r_pre, r_imp, r_all, r_ex, r_fing, r_preg, r_exg, r_inBlock, r_inLoop, r_frame, r_frame1, r_skip, r_region, r_seq, r_cond, r_cond1, r_block, r_exit, r_exit1, r_exit2, r_ret, r_loop, s_args0, s_args1, s_xt, s_xc, padL, blankL, callee, callArgs, eff, ctOf, getL, setL, S.put, S.upd, unopts, unopt, unoptsO, unoptsB, lazyO, guardOf, gbool, eMov, eNot, eNeg, eConv, eExt, eLenArr, eLen, eLenStr, eEqb, eEqv, allEq, eNil, negIf, eBool2, eCmp, eAri, ari, eBit, eDiv, eSh, eMinMax, foldMin, foldMax, kEq, pure1, cmpB, VO.quiet, resVals, resVal, tupled, popRet, popTo, cond, Option.bind, Option.map, eNew, eBox, asCells, lenH, snocH, eFieldAddr, eField, eLoad, cellsAt, getH, setH, dropL, takeL, mkAgg, lenL, lenS, shift, shiftL, shiftH, viewN, viewL, view, andT, junks, List.append_nil, Nat.beq, eIdxAddr, eIdxArr, eIndex, eStore, storeAt, spliceL, ones, one, eSlice, eSliceArr, bounds, subLo, addLo, eMake, eAppend, readS, repL, buildCells, chunk, purgeL, purgeLL, purgeH, purge, refs, refsL, List.cons_append, List.nil_append, wrOps, wrAl, wrDops, wrC, junkAt, putAll, putHs, headOf, headK, keepG, List.append_eq, headX, chkP, apartP, apartB, blk, strip, runAl, yld, putPs, lenN, findR, notRound, jumpK, jumpPT, jcode, List.map_cons, List.map_nil, ite_self, reduceIte]
    simp only [true_and, and_true, imp_self, implies_true, decide_eq_true_eq, decide_eq_false_iff_not, Nat.reduceAdd, Nat.reduceLeDiff, Bool.not_not, reduceCtorEq, false_imp_iff, Bool.not_eq_true', Bool.not_eq_false', Bool.false_eq_true, and_self, forall_const, ne_eq, not_false_eq_true, Nat.reduceEqDiff]
    intro lp
    refine Loop.at Nat (fun i => [(10, .int .i64 i)]) (fun i => [(2, .box (encQ (touchF (l.reverse.take i) ⟨p, 1⟩)))]) [] (fun i => i ≤ l.length) (fun i => l.length - i) ?_ ?_
    · refine ⟨0, Nat.zero_le _, ?_⟩
      dsimp only [encQ, touchF, List.take_zero, List.foldl_nil, r_end, r_end1, r_nil, r_op, r_opg, r_runOp, r_op0, r_yld0, r_yld1, r_y, r_rbeg, r_rend, r_rend1, r_rfrm, r_rfrm1, r_range, r_rangeK, r_rangeE, r_draw, r_dnil, r_dop, r_dopg, r_dplq, r_dplh, r_dq, r_dq0, r_dcl1, r_dcl0, r_dct1, r_dct0, r_dgd, r_dgq1, r_dgq0, r_dctG, r_op1, r_eff, r_eff0, r_call, r_call0, r_inl, r_g, r_gq, r_gc, r_effg, r_effg0, r_callg, r_callg0, r_fin, r_pre, r_imp, r_all, r_ex, r_fing, r_preg, r_exg, r_inBlock, r_inLoop, r_frame, r_frame1, r_skip, r_region, r_seq, r_cond, r_cond1, r_block, r_exit, r_exit1, r_exit2, r_ret, r_loop, s_args0, s_args1, s_xt, s_xc, padL, blankL, callee, callArgs, eff, ctOf, getL, setL, S.put, S.upd, unopts, unopt, unoptsO, unoptsB, lazyO, guardOf, gbool, eMov, eNot, eNeg, eConv, eExt, eLenArr, eLen, eLenStr, eEqb, eEqv, allEq, eNil, negIf, eBool2, eCmp, eAri, ari, eBit, eDiv, eSh, eMinMax, foldMin, foldMax, kEq, pure1, cmpB, VO.quiet, resVals, resVal, tupled, popRet, popTo, cond, Option.bind, Option.map, eNew, eBox, asCells, lenH, snocH, eFieldAddr, eField, eLoad, cellsAt, getH, setH, dropL, takeL, mkAgg, lenL, lenS, shift, shiftL, shiftH, viewN, viewL, view, andT, junks, List.append_nil, Nat.beq, eIdxAddr, eIdxArr, eIndex, eStore, storeAt, spliceL, ones, one, eSlice, eSliceArr, bounds, subLo, addLo, eMake, eAppend, readS, repL, buildCells, chunk, purgeL, purgeLL, purgeH, purge, refs, refsL, List.cons_append, List.nil_append, wrOps, wrAl, wrDops, wrC, junkAt, putAll, putHs, headOf, headK, keepG, List.append_eq, headX, chkP, apartP, apartB, blk, strip, runAl, yld, putPs, lenN, findR, notRound, jumpK, jumpPT, jcode, List.map_cons, List.map_nil, ite_self, reduceIte]
      simp only [leS_mk, leL_cons, leL_nil, le_junk, le_int, le_bool, le_nil, leLL_nil, leLL_cons, leH_cons, leH_nil, leH1_box, leH1_own, leH1_gone, le_vs, le_agg, le_tup, le_ptr, le_own, le_xp, le_fn, le_opt, le_val, le_elem, le_nil_own, le_nil_vs, leH_ghost, leL_chunk, leXL_id, bnd_int, bnd_bool, bnd_val, bnd_nil, bnd_junk, bnd_vs, bnd_xp, bnd_agg, bnd_tup, bnd_ptr, bnd_own, bnd_elem, bnd_fn, bnd_iface, bnd_opt, bndL_nil, bndL_cons, lenH_cons, lenH_nil, imp_self, implies_true, true_and, and_true]
      simp
    · rintro i hi
      dsimp only [E2_ct34, moreC, E2_ct45, timesC, enc, encQ, Int.toNat_natCast, r_end, r_end1, r_nil, r_op, r_opg, r_runOp, r_op0, r_yld0, r_yld1, r_y, r_rbeg, r_rend, r_rend1, r_rfrm, r_rfrm1, r_range, r_rangeK, r_rangeE, r_draw, r_dnil, r_dop, r_dopg, r_dplq, r_dplh, r_dq, r_dq0, r_dcl1, r_dcl0, r_dct1, r_dct0, r_dgd, r_dgq1, r_dgq0, r_dctG, r_op1, r_eff, r_eff0, r_call, r_call0, r_inl, r_g, r_gq, r_gc, r_effg, r_effg0, r_callg, r_callg0, r_fin, r_pre, r_imp, r_all, r_ex, r_fing, r_preg, r_exg, r_inBlock, r_inLoop, r_frame, r_frame1, r_skip, r_region, r_seq, r_cond, r_cond1, r_block, r_exit, r_exit1, r_exit2, r_ret, r_loop, s_args0, s_args1, s_xt, s_xc, padL, blankL, callee, callArgs, eff, ctOf, getL, setL, S.put, S.upd, unopts, unopt, unoptsO, unoptsB, lazyO, guardOf, gbool, eMov, eNot, eNeg, eConv, eExt, eLenArr, eLen, eLenStr, eEqb, eEqv, allEq, eNil, negIf, eBool2, eCmp, eAri, ari, eBit, eDiv, eSh, eMinMax, foldMin, foldMax, kEq, pure1, cmpB, VO.quiet, resVals, resVal, tupled, popRet, popTo, cond, Option.bind, Option.map, eNew, eBox, asCells, lenH, snocH, eFieldAddr, eField, eLoad, cellsAt, getH, setH, dropL, takeL, mkAgg, lenL, lenS, shift, shiftL, shiftH, viewN, viewL, view, andT, junks, List.append_nil, Nat.beq, eIdxAddr, eIdxArr, eIndex, eStore, storeAt, spliceL, ones, one, eSlice, eSliceArr, bounds, subLo, addLo, eMake, eAppend, readS, repL, buildCells, chunk, purgeL, purgeLL, purgeH, purge, refs, refsL, List.cons_append, List.nil_append, wrOps, wrAl, wrDops, wrC, junkAt, putAll, putHs, headOf, headK, keepG, List.append_eq, headX, chkP, apartP, apartB, blk, strip, runAl, yld, putPs, lenN, findR, notRound, jumpK, jumpPT, jcode, List.map_cons, List.map_nil, ite_self, reduceIte]
      simp only [true_and, and_true, imp_self, implies_true, decide_eq_true_eq, decide_eq_false_iff_not, Nat.reduceAdd, Nat.reduceLeDiff, Bool.not_not, reduceCtorEq, false_imp_iff, Bool.not_eq_true', Bool.not_eq_false', Bool.false_eq_true, and_self, forall_const, ne_eq, not_false_eq_true, Nat.reduceEqDiff]
      refine ⟨fun hlt => ?_, fun hge => ?_⟩
      · have hil : i < l.length := by omega
        have hx := back_ix hil h100
        refine ⟨by rw [hx]; omega, fun h0 => ?_, fun h0 => ?_⟩
        all_goals
          refine ⟨i + 1, by omega, by omega, ?_⟩
          rw [touch_succ (l := l.reverse) (by simpa using hil), rev_get hil]
          have hw := w_succ (i := i) (n := l.length) (by omega) (by omega)
          simp only [hw, hx, Int.toNat_natCast, leS_mk, leL_cons, leL_nil, le_junk, le_int, le_bool, le_nil, leLL_nil, leLL_cons, leH_cons, leH_nil, leH1_box, leH1_own, leH1_gone, le_vs, le_agg, le_tup, le_ptr, le_own, le_xp, le_fn, le_opt, le_val, le_elem, le_nil_own, le_nil_vs, leH_ghost, leL_chunk, leXL_id, bnd_int, bnd_bool, bnd_val, bnd_nil, bnd_junk, bnd_vs, bnd_xp, bnd_agg, bnd_tup, bnd_ptr, bnd_own, bnd_elem, bnd_fn, bnd_iface, bnd_opt, bndL_nil, bndL_cons, lenH_cons, lenH_nil, imp_self, implies_true, true_and, and_true]
          simp [timesF, moreF, w6]
      · refine ans_le (show k _ [] from h) ?_ ?_
        · rw [take_full (by simp; omega)]
          simp [expo, view, viewL, le, leL, encQ]
        · simp [freshS, freshL, encQ]
  · exact h.1.elim

theorem tou43 : touC.ok Try.prog 43 := by
  refine contract Try.func43 v43_is E0_ok 400 touC fun args k h => ?_
  simp only [touC] at h
  split at h
  · rename_i tt z n sz get p t
    obtain ⟨l, ⟨⟨rfl, rfl, hg⟩, h100⟩, h⟩ := h
    refine ⟨[.agg [.vs tt z l.length 4 (fun k => enc (l.getD k default)), .int .i64 p, .int .i64 t]], by simpa [leL, le] using fun k hk => leXL_eq (hg k hk), ?_⟩
    dsimp only [v43, r_end, r_end1, r_nil, r_op, r_opg, r_runOp, r_op0, r_yld0, r_yld1, r_y, r_rbeg, r_rend, r_rend1, r_rfrm, r_rfrm1, r_range, r_rangeK, r_rangeE, r_draw, r_dnil, r_dop, r_dopg, r_dplq, r_dplh, r_dq, r_dq0, r_dcl1, r_dcl0, r_dct1, r_dct0, r_dgd, r_dgq1, r_dgq0, r_dctG, r_op1, r_eff, r_eff0, r_call, r_call0, r_inl, r_g, r_gq, r_gc, r_effg, r_effg0, r_callg, r_callg0, r_fin, r_pre, r_imp, r_all, r_ex, r_fing, r_preg, r_exg, r_inBlock, r_inLoop, r_frame, r_frame1, r_skip, r_region, r_seq, r_cond, r_cond1, r_block, r_exit, r_exit1, r_exit2, r_ret, r_loop, s_args0, s_args1, s_xt, s_xc, padL, blankL, callee, callArgs, eff, ctOf, getL, setL, S.put, S.upd, unopts, unopt, unoptsO, unoptsB, lazyO, guardOf, gbool, eMov, eNot, eNeg, eConv, eExt, eLenArr, eLen, eLenStr, eEqb, eEqv, allEq, eNil, negIf, eBool2, eCmp, eAri, ari, eBit, eDiv, eSh, eMinMax, foldMin, foldMax, kEq, pure1, cmpB, VO.quiet, resVals, resVal, tupled, popRet, popTo, cond, Option.bind, Option.map, eNew, eBox, asCells, lenH, snocH, eFieldAddr, eField, eLoad, cellsAt, getH, setH, dropL, takeL, mkAgg, lenL, lenS, shift, shiftL, shiftH, viewN, viewL, view, andT, junks, List.append_nil, Nat.beq, eIdxAddr, eIdxArr, eIndex, eStore, storeAt, spliceL, ones, one, eSlice, eSliceArr, bounds, subLo, addLo, eMake, eAppend, readS, repL, buildCells, chunk, purgeL, purgeLL, purgeH, purge, refs, refsL, List.cons_append, List.nil_append, wrOps, wrAl, wrDops, wrC, junkAt, putAll, putHs, headOf, headK, keepG, List.append_eq, headX, chkP, apartP, apartB, blk, strip, runAl, yld, putPs, lenN, findR, notRound, jumpK, jumpPT, jcode, List.map_cons, List.map_nil, ite_self, reduceIte]
    simp only [true_and, and_true, imp_self, implies_true, decide_eq_true_eq, decide_eq_false_iff_not, Nat.reduceAdd, Nat.reduceLeDiff, Bool.not_not, reduceCtorEq, false_imp_iff, Bool.not_eq_true', Bool.not_eq_false', Bool.false_eq_true, and_self, forall_const, ne_eq, not_false_eq_true, Nat.reduceEqDiff]
    refine Loop.at Nat (fun i => [(4, .int .i64 ((l.length : Int) - 1 - i))]) (fun i => [(2, .box (encQ (touchF (l.reverse.take i) ⟨p, 1⟩)))]) [] (fun i => i ≤ l.length) (fun i => l.length - i) ?_ ?_
    · refine ⟨0, Nat.zero_le _, ?_⟩
      dsimp only [encQ, touchF, List.take_zero, List.foldl_nil, r_end, r_end1, r_nil, r_op, r_opg, r_runOp, r_op0, r_yld0, r_yld1, r_y, r_rbeg, r_rend, r_rend1, r_rfrm, r_rfrm1, r_range, r_rangeK, r_rangeE, r_draw, r_dnil, r_dop, r_dopg, r_dplq, r_dplh, r_dq, r_dq0, r_dcl1, r_dcl0, r_dct1, r_dct0, r_dgd, r_dgq1, r_dgq0, r_dctG, r_op1, r_eff, r_eff0, r_call, r_call0, r_inl, r_g, r_gq, r_gc, r_effg, r_effg0, r_callg, r_callg0, r_fin, r_pre, r_imp, r_all, r_ex, r_fing, r_preg, r_exg, r_inBlock, r_inLoop, r_frame, r_frame1, r_skip, r_region, r_seq, r_cond, r_cond1, r_block, r_exit, r_exit1, r_exit2, r_ret, r_loop, s_args0, s_args1, s_xt, s_xc, padL, blankL, callee, callArgs, eff, ctOf, getL, setL, S.put, S.upd, unopts, unopt, unoptsO, unoptsB, lazyO, guardOf, gbool, eMov, eNot, eNeg, eConv, eExt, eLenArr, eLen, eLenStr, eEqb, eEqv, allEq, eNil, negIf, eBool2, eCmp, eAri, ari, eBit, eDiv, eSh, eMinMax, foldMin, foldMax, kEq, pure1, cmpB, VO.quiet, resVals, resVal, tupled, popRet, popTo, cond, Option.bind, Option.map, eNew, eBox, asCells, lenH, snocH, eFieldAddr, eField, eLoad, cellsAt, getH, setH, dropL, takeL, mkAgg, lenL, lenS, shift, shiftL, shiftH, viewN, viewL, view, andT, junks, List.append_nil, Nat.beq, eIdxAddr, eIdxArr, eIndex, eStore, storeAt, spliceL, ones, one, eSlice, eSliceArr, bounds, subLo, addLo, eMake, eAppend, readS, repL, buildCells, chunk, purgeL, purgeLL, purgeH, purge, refs, refsL, List.cons_append, List.nil_append, wrOps, wrAl, wrDops, wrC, junkAt, putAll, putHs, headOf, headK, keepG, List.append_eq, headX, chkP, apartP, apartB, blk, strip, runAl, yld, putPs, lenN, findR, notRound, jumpK, jumpPT, jcode, List.map_cons, List.map_nil, ite_self, reduceIte]
      simp only [leS_mk, leL_cons, leL_nil, le_junk, le_int, le_bool, le_nil, leLL_nil, leLL_cons, leH_cons, leH_nil, leH1_box, leH1_own, leH1_gone, le_vs, le_agg, le_tup, le_ptr, le_own, le_xp, le_fn, le_opt, le_val, le_elem, le_nil_own, le_nil_vs, leH_ghost, leL_chunk, leXL_id, bnd_int, bnd_bool, bnd_val, bnd_nil, bnd_junk, bnd_vs, bnd_xp, bnd_agg, bnd_tup, bnd_ptr, bnd_own, bnd_elem, bnd_fn, bnd_iface, bnd_opt, bndL_nil, bndL_cons, lenH_cons, lenH_nil, imp_self, implies_true, true_and, and_true]
      have : IntKind.i64.wrap ((l.length : Int) - 1) = (l.length : Int) - 1 := IntWalk.i64_in _ (by omega)
      simp [this]
    · rintro i hi
      dsimp only [enc, encQ, r_end, r_end1, r_nil, r_op, r_opg, r_runOp, r_op0, r_yld0, r_yld1, r_y, r_rbeg, r_rend, r_rend1, r_rfrm, r_rfrm1, r_range, r_rangeK, r_rangeE, r_draw, r_dnil, r_dop, r_dopg, r_dplq, r_dplh, r_dq, r_dq0, r_dcl1, r_dcl0, r_dct1, r_dct0, r_dgd, r_dgq1, r_dgq0, r_dctG, r_op1, r_eff, r_eff0, r_call, r_call0, r_inl, r_g, r_gq, r_gc, r_effg, r_effg0, r_callg, r_callg0, r_fin, r_pre, r_imp, r_all, r_ex, r_fing, r_preg, r_exg, r_inBlock, r_inLoop, r_frame, r_frame1, r_skip, r_region, r_seq, r_cond, r_cond1, r_block, r_exit, r_exit1, r_exit2, r_ret, r_loop, s_args0, s_args1, s_xt, s_xc, padL, blankL, callee, callArgs, eff, ctOf, getL, setL, S.put, S.upd, unopts, unopt, unoptsO, unoptsB, lazyO, guardOf, gbool, eMov, eNot, eNeg, eConv, eExt, eLenArr, eLen, eLenStr, eEqb, eEqv, allEq, eNil, negIf, eBool2, eCmp, eAri, ari, eBit, eDiv, eSh, eMinMax, foldMin, foldMax, kEq, pure1, cmpB, VO.quiet, resVals, resVal, tupled, popRet, popTo, cond, Option.bind, Option.map, eNew, eBox, asCells, lenH, snocH, eFieldAddr, eField, eLoad, cellsAt, getH, setH, dropL, takeL, mkAgg, lenL, lenS, shift, shiftL, shiftH, viewN, viewL, view, andT, junks, List.append_nil, Nat.beq, eIdxAddr, eIdxArr, eIndex, eStore, storeAt, spliceL, ones, one, eSlice, eSliceArr, bounds, subLo, addLo, eMake, eAppend, readS, repL, buildCells, chunk, purgeL, purgeLL, purgeH, purge, refs, refsL, List.cons_append, List.nil_append, wrOps, wrAl, wrDops, wrC, junkAt, putAll, putHs, headOf, headK, keepG, List.append_eq, headX, chkP, apartP, apartB, blk, strip, runAl, yld, putPs, lenN, findR, notRound, jumpK, jumpPT, jcode, List.map_cons, List.map_nil, ite_self, reduceIte]
      simp only [true_and, and_true, imp_self, implies_true, decide_eq_true_eq, decide_eq_false_iff_not, Nat.reduceAdd, Nat.reduceLeDiff, Bool.not_not, reduceCtorEq, false_imp_iff, Bool.not_eq_true', Bool.not_eq_false', Bool.false_eq_true, and_self, forall_const, ne_eq, not_false_eq_true, Nat.reduceEqDiff]
      refine ⟨fun hlt => ?_, fun hge => ?_⟩
      · have hil : i < l.length := by omega
        have hx : ((l.length : Int) - 1 - i).toNat = l.length - 1 - i := by omega
        have hw : IntKind.i64.wrap ((l.length : Int) - 1 - i - 1) = (l.length : Int) - 1 - ((i + 1 : Nat) : Int) := by rw [IntWalk.i64_in _ (by omega)]; omega
        refine ⟨by omega, i + 1, by omega, by omega, ?_⟩
        rw [touch_succ (l := l.reverse) (by simpa using hil), rev_get hil]
        simp only [hw, hx, leS_mk, leL_cons, leL_nil, le_junk, le_int, le_bool, le_nil, leLL_nil, leLL_cons, leH_cons, leH_nil, leH1_box, leH1_own, leH1_gone, le_vs, le_agg, le_tup, le_ptr, le_own, le_xp, le_fn, le_opt, le_val, le_elem, le_nil_own, le_nil_vs, leH_ghost, leL_chunk, leXL_id, bnd_int, bnd_bool, bnd_val, bnd_nil, bnd_junk, bnd_vs, bnd_xp, bnd_agg, bnd_tup, bnd_ptr, bnd_own, bnd_elem, bnd_fn, bnd_iface, bnd_opt, bndL_nil, bndL_cons, lenH_cons, lenH_nil, imp_self, implies_true, true_and, and_true]
        simp [timesF, moreF, w6]
      · refine ans_le (show k _ [] from h) ?_ ?_
        · rw [take_full (by simp; omega)]
          simp [expo, view, viewL, le, leL, encQ]
        · simp [freshS, freshL, encQ]
  · exact h.1.elim

def enoC : Ctr := { alias := false, of := fun l => match l with
  | [.agg [.vs _ _ n sz get, .int .i64 p, .int .i64 t], .int .i64 turns, .int .i64 key, .int .i64 opn] => .ex (List Part) fun l => .pre ((sz = 4 ∧ n = l.length ∧ ∀ k, k < n → get k = enc (l.getD k default)) ∧ l.length ≤ 100) (.fin (.bool (enoughF l t turns key opn)) [])
  | _ => noC }

def E5 : Env := { ct := fun n => match n with | 32 => some travC | _ => none, fn := fun _ => none, meth := fun _ _ => none }
theorem E5_ct32 : E5.ct 32 = some travC := rfl
theorem E5_ok : EnvOk Try.prog E5 := by
  refine ⟨fun f c h => ?_, fun f vf h => ?_, fun _ _ => rfl, by kernel_rfl⟩
  · simp only [E5] at h
    split at h
    · cases h; exact ⟨trav32, Try.f32, Try.func32, by kernel_rfl, by kernel_rfl⟩
    · cases h
  · cases h


theorem eno35 : enoC.ok Try.prog 35 := by
  refine contract Try.func35 v35_is E5_ok 400 enoC fun args k h => ?_
  simp only [enoC] at h
  split at h
  · rename_i tt z n sz get p t turns key opn
    obtain ⟨l, ⟨⟨rfl, rfl, hg⟩, h100⟩, h⟩ := h
    refine ⟨[.agg [.vs tt z l.length 4 (fun k => enc (l.getD k default)), .int .i64 p, .int .i64 t], .int .i64 turns, .int .i64 key, .int .i64 opn], by simpa [leL, le] using fun k hk => leXL_eq (hg k hk), ?_⟩
    dsimp only [v35, E5_ct32, travC, enc, encQ, r_end, r_end1, r_nil, r_op, r_opg, r_runOp, r_op0, r_yld0, r_yld1, r_y, r_rbeg, r_rend, r_rend1, r_rfrm, r_rfrm1, r_range, r_rangeK, r_rangeE, r_draw, r_dnil, r_dop, r_dopg, r_dplq, r_dplh, r_dq, r_dq0, r_dcl1, r_dcl0, r_dct1, r_dct0, r_dgd, r_dgq1, r_dgq0, r_dctG, r_op1, r_eff, r_eff0, r_call, r_call0, r_inl, r_g, r_gq, r_gc, r_effg, r_effg0, r_callg, r_callg0, r_fin, r_pre, r_imp, r_all, r_ex, r_fing, r_preg, r_exg, r_inBlock, r_inLoop, r_frame, r_frame1, r_skip, r_region, r_seq, r_cond, r_cond1, r_block, r_exit, r_exit1, r_exit2, r_ret, r_loop, s_args0, s_args1, s_xt, s_xc, padL, blankL, callee, callArgs, eff, ctOf, getL, setL, S.put, S.upd, unopts, unopt, unoptsO, unoptsB, lazyO, guardOf, gbool, eMov, eNot, eNeg, eConv, eExt, eLenArr, eLen, eLenStr, eEqb, eEqv, allEq, eNil, negIf, eBool2, eCmp, eAri, ari, eBit, eDiv, eSh, eMinMax, foldMin, foldMax, kEq, pure1, cmpB, VO.quiet, resVals, resVal, tupled, popRet, popTo, cond, Option.bind, Option.map, eNew, eBox, asCells, lenH, snocH, eFieldAddr, eField, eLoad, cellsAt, getH, setH, dropL, takeL, mkAgg, lenL, lenS, shift, shiftL, shiftH, viewN, viewL, view, andT, junks, List.append_nil, Nat.beq, eIdxAddr, eIdxArr, eIndex, eStore, storeAt, spliceL, ones, one, eSlice, eSliceArr, bounds, subLo, addLo, eMake, eAppend, readS, repL, buildCells, chunk, purgeL, purgeLL, purgeH, purge, refs, refsL, List.cons_append, List.nil_append, wrOps, wrAl, wrDops, wrC, junkAt, putAll, putHs, headOf, headK, keepG, List.append_eq, headX, chkP, apartP, apartB, blk, strip, runAl, yld, putPs, lenN, findR, notRound, jumpK, jumpPT, jcode, List.map_cons, List.map_nil, ite_self, reduceIte]
    simp only [true_and, and_true, imp_self, implies_true, decide_eq_true_eq, decide_eq_false_iff_not, Nat.reduceAdd, Nat.reduceLeDiff, Bool.not_not, reduceCtorEq, false_imp_iff, Bool.not_eq_true', Bool.not_eq_false', Bool.false_eq_true, and_self, forall_const, ne_eq, not_false_eq_true, Nat.reduceEqDiff]
    exact ⟨l, ⟨⟨rfl, fun _ _ => rfl⟩, h100⟩, ans_bool h⟩
  · exact h.1.elim
end Go.Proofs.Ytmhlinndhmdjlaa
