/- Trackers: the example, and what the laws say of it. -/
import Derived.Test.YtmhlinndhmdjlaaW5
set_option linter.all false
namespace Go.Proofs.Ytmhlinndhmdjlaa
open Go Go.Vx
set_option maxRecDepth 100000
set_option maxHeartbeats 4000000

def v25 : VF := { ntmps := 5, res := [.cell 0 true 3], body :=
 (.seq (.region [⟨(some 0), none, (.alloc [.nil, (.int .i64 0), (.int .i64 0)]), []⟩])
 (.seq (.region [⟨(some 1), none, (.build [(.int .i64 0), (.int .i64 0), (.int .i64 0), (.int .i64 0)] [(0, 1), (1, 1), (2, 1), (3, 1)]), [.cn (.int .i64 3), .cn (.int .i64 2), .cn (.int .i64 500), .cn (.int .i64 100)]⟩,
  ⟨(some 2), none, (.build [(.int .i64 0), (.int .i64 0), (.int .i64 0), (.int .i64 0)] [(0, 1), (1, 1), (2, 1), (3, 1)]), [.cn (.int .i64 1), .cn (.int .i64 3), .cn (.int .i64 300), .cn (.int .i64 50)]⟩,
  ⟨(some 3), none, (.buildSlice 4 2 [(.int .i64 0), (.int .i64 0), (.int .i64 0), (.int .i64 0)] [(0, 4), (4, 4)]), [.tm 1, .tm 2]⟩,
  ⟨(some 4), none, (.build [.nil, (.int .i64 0), (.int .i64 0)] [(0, 1), (1, 1), (2, 1)]), [.tm 3, .cn (.int .i64 900), .cn (.int .i64 200)]⟩,
  ⟨none, none, (.store 3), [.tm 0, .tm 4]⟩])
 .ret)) }
theorem v25_is : vfunc Try.prog Try.f25 = some v25 := by kernel_rfl
def v26 : VF := { ntmps := 27, res := [.tmp 8], body :=
 (.seq (.region [⟨(some 8), none, .mov, [.cn (.bool false)]⟩])
 (.seq (.region [⟨(some 12), none, (.call 25), []⟩,
  ⟨(some 13), none, .mov, [.tm 0]⟩,
  ⟨(some 14), none, .mov, [.tm 1]⟩,
  ⟨(some 15), none, (.call 9), [.tm 12, .tm 13, .tm 14]⟩,
  ⟨(some 11), none, .mov, [.tm 15]⟩,
  ⟨(some 16), none, (.ext 0), [.tm 11]⟩,
  ⟨(some 17), none, (.ext 1), [.tm 11]⟩,
  ⟨(some 9), none, (.alloc [(.int .i64 0), (.int .i64 0)]), []⟩,
  ⟨none, none, (.store 2), [.tm 9, .tm 16]⟩,
  ⟨(some 10), none, .mov, [.tm 17]⟩])
 (.seq (.region [⟨(some 18), none, .mov, [.tm 10]⟩,
  ⟨(some 19), none, (.cmp .eql), [.tm 18, .cn (.int .i64 0)]⟩,
  ⟨(some 20), none, .mov, [.tm 19]⟩,
  ⟨(some 21), (some (20, true)), (.load true 2), [.tm 9]⟩,
  ⟨(some 22), (some (20, true)), .mov, [.tm 2]⟩,
  ⟨(some 23), (some (20, true)), .mov, [.tm 3]⟩,
  ⟨(some 24), (some (20, true)), (.build [(.int .i64 0), (.int .i64 0)] [(0, 1), (1, 1)]), [.tm 22, .tm 23]⟩,
  ⟨(some 25), (some (20, true)), (.eqv false [true, true]), [.tm 21, .tm 24]⟩,
  ⟨(some 26), none, .and, [.tm 20, .tm 25]⟩,
  ⟨(some 8), none, .mov, [.tm 26]⟩])
 .ret))) }
theorem v26_is : vfunc Try.prog Try.f26 = some v26 := by kernel_rfl
def v8 : VF := { ntmps := 56, res := [.tmp 0], body :=
 (.seq (.region [⟨(some 0), none, .mov, [.cn (.bool false)]⟩])
 (.seq (.region [⟨(some 8), none, (.call 25), []⟩,
  ⟨(some 9), none, (.call 11), [.tm 8, .cn (.int .i64 0), .cn (.int .i64 4400)]⟩,
  ⟨(some 7), none, .mov, [.tm 9]⟩,
  ⟨(some 10), none, (.ext 0), [.tm 7]⟩,
  ⟨(some 11), none, (.ext 1), [.tm 7]⟩,
  ⟨(some 1), none, .mov, [.tm 10]⟩,
  ⟨(some 2), none, .mov, [.tm 11]⟩])
 (.seq (.region [⟨(some 13), none, (.call 25), []⟩,
  ⟨(some 14), none, (.call 19), [.tm 13]⟩,
  ⟨(some 12), none, .mov, [.tm 14]⟩,
  ⟨(some 15), none, (.ext 0), [.tm 12]⟩,
  ⟨(some 16), none, (.ext 1), [.tm 12]⟩,
  ⟨(some 3), none, (.alloc [(.int .i64 0), (.int .i64 0)]), []⟩,
  ⟨none, none, (.store 2), [.tm 3, .tm 15]⟩,
  ⟨(some 4), none, .mov, [.tm 16]⟩])
 (.seq (.region [⟨(some 18), none, (.call 25), []⟩,
  ⟨(some 19), none, (.buildSlice 3 1 [.nil, (.int .i64 0), (.int .i64 0)] [(0, 3)]), [.tm 18]⟩,
  ⟨(some 20), none, (.call 16), [.tm 19, .cn (.int .i64 9500), .cn (.int .i64 4600)]⟩,
  ⟨(some 17), none, .mov, [.tm 20]⟩,
  ⟨(some 21), none, (.ext 0), [.tm 17]⟩,
  ⟨(some 22), none, (.ext 1), [.tm 17]⟩,
  ⟨(some 5), none, .mov, [.tm 21]⟩,
  ⟨(some 6), none, .mov, [.tm 22]⟩])
 (.seq (.region [⟨(some 23), none, (.call 26), [.cn (.int .i64 0), .cn (.int .i64 9500), .cn (.int .i64 4400), .cn (.int .i64 4400)]⟩,
  ⟨(some 24), none, .mov, [.tm 23]⟩,
  ⟨(some 25), (some (24, true)), (.call 26), [.cn (.int .i64 0), .cn (.int .i64 9501), .cn (.int .i64 4400), .cn (.int .i64 4401)]⟩,
  ⟨(some 26), none, .and, [.tm 24, .tm 25]⟩,
  ⟨(some 27), none, .mov, [.tm 26]⟩,
  ⟨(some 28), (some (27, true)), (.call 26), [.cn (.int .i64 3), .cn (.int .i64 9500), .cn (.int .i64 4650), .cn (.int .i64 4650)]⟩,
  ⟨(some 29), none, .and, [.tm 27, .tm 28]⟩,
  ⟨(some 30), none, .mov, [.tm 29]⟩,
  ⟨(some 31), (some (30, true)), .mov, [.tm 1]⟩,
  ⟨(some 32), (some (30, true)), (.cmp .eql), [.tm 31, .cn (.int .i64 9500)]⟩,
  ⟨(some 33), none, .and, [.tm 30, .tm 32]⟩,
  ⟨(some 34), none, .mov, [.tm 33]⟩,
  ⟨(some 35), (some (34, true)), .mov, [.tm 2]⟩,
  ⟨(some 36), (some (34, true)), (.cmp .eql), [.tm 35, .cn (.int .i64 0)]⟩,
  ⟨(some 37), none, .and, [.tm 34, .tm 36]⟩,
  ⟨(some 38), none, .mov, [.tm 37]⟩,
  ⟨(some 39), (some (38, true)), (.load true 2), [.tm 3]⟩,
  ⟨(some 40), (some (38, true)), (.build [(.int .i64 0), (.int .i64 0)] [(0, 1), (1, 1)]), [.cn (.int .i64 625), .cn (.int .i64 625)]⟩,
  ⟨(some 41), (some (38, true)), (.eqv false [true, true]), [.tm 39, .tm 40]⟩,
  ⟨(some 42), none, .and, [.tm 38, .tm 41]⟩,
  ⟨(some 43), none, .mov, [.tm 42]⟩,
  ⟨(some 44), (some (43, true)), .mov, [.tm 4]⟩,
  ⟨(some 45), (some (43, true)), (.cmp .eql), [.tm 44, .cn (.int .i64 0)]⟩,
  ⟨(some 46), none, .and, [.tm 43, .tm 45]⟩,
  ⟨(some 47), none, .mov, [.tm 46]⟩,
  ⟨(some 48), (some (47, true)), .mov, [.tm 6]⟩,
  ⟨(some 49), (some (47, true)), (.cmp .eql), [.tm 48, .cn (.int .i64 0)]⟩,
  ⟨(some 50), none, .and, [.tm 47, .tm 49]⟩,
  ⟨(some 51), none, .mov, [.tm 50]⟩,
  ⟨(some 52), (some (51, true)), .mov, [.tm 5]⟩,
  ⟨(some 53), (some (51, true)), (.buildSlice 1 1 [(.int .i64 0)] [(0, 1)]), [.cn (.int .i64 2)]⟩,
  ⟨(some 54), (some (51, true)), (.call 18), [.tm 52, .tm 53]⟩,
  ⟨(some 55), none, .and, [.tm 51, .tm 54]⟩,
  ⟨(some 0), none, .mov, [.tm 55]⟩])
 .ret))))) }
theorem v8_is : vfunc Try.prog Try.f8 = some v8 := by kernel_rfl
def v20 : VF := { ntmps := 39, res := [.tmp 6], body :=
 (.seq (.region [⟨(some 3), none, .box, [.tm 0]⟩,
  ⟨(some 6), none, .mov, [.cn (.bool false)]⟩])
 (.seq (.region [⟨(some 7), none, (.fieldAddr 0), [.tm 3]⟩,
  ⟨(some 8), none, (.load false 1), [.tm 7]⟩,
  ⟨(some 9), none, .mov, [.tm 2]⟩,
  ⟨(some 10), none, (.ari .mul), [.tm 8, .tm 9]⟩,
  ⟨(some 11), none, .mov, [.tm 1]⟩,
  ⟨(some 12), none, (.cmp .leq), [.tm 10, .tm 11]⟩,
  ⟨(some 13), none, .mov, [.tm 12]⟩,
  ⟨(some 14), (some (13, true)), .mov, [.tm 1]⟩,
  ⟨(some 15), (some (13, true)), (.fieldAddr 0), [.tm 3]⟩,
  ⟨(some 16), (some (13, true)), (.load false 1), [.tm 15]⟩,
  ⟨(some 17), (some (13, true)), (.ari .add), [.tm 16, .cn (.int .i64 1)]⟩,
  ⟨(some 18), (some (13, true)), .mov, [.tm 2]⟩,
  ⟨(some 19), (some (13, true)), (.ari .mul), [.tm 17, .tm 18]⟩,
  ⟨(some 20), (some (13, true)), (.cmp .lss), [.tm 14, .tm 19]⟩,
  ⟨(some 21), none, .and, [.tm 13, .tm 20]⟩,
  ⟨(some 22), none, .mov, [.tm 21]⟩,
  ⟨(some 23), (some (22, true)), (.fieldAddr 1), [.tm 3]⟩,
  ⟨(some 24), (some (22, true)), (.load false 1), [.tm 23]⟩,
  ⟨(some 25), (some (22, true)), .mov, [.tm 2]⟩,
  ⟨(some 26), (some (22, true)), (.ari .mul), [.tm 24, .tm 25]⟩,
  ⟨(some 27), (some (22, true)), .mov, [.tm 1]⟩,
  ⟨(some 28), (some (22, true)), (.cmp .geq), [.tm 26, .tm 27]⟩,
  ⟨(some 29), none, .and, [.tm 22, .tm 28]⟩,
  ⟨(some 30), none, .mov, [.tm 29]⟩,
  ⟨(some 31), (some (30, true)), .mov, [.tm 1]⟩,
  ⟨(some 32), (some (30, true)), (.fieldAddr 1), [.tm 3]⟩,
  ⟨(some 33), (some (30, true)), (.load false 1), [.tm 32]⟩,
  ⟨(some 34), (some (30, true)), (.ari .sub), [.tm 33, .cn (.int .i64 1)]⟩,
  ⟨(some 35), (some (30, true)), .mov, [.tm 2]⟩,
  ⟨(some 36), (some (30, true)), (.ari .mul), [.tm 34, .tm 35]⟩,
  ⟨(some 37), (some (30, true)), (.cmp .gtr), [.tm 31, .tm 36]⟩,
  ⟨(some 38), none, .and, [.tm 30, .tm 37]⟩,
  ⟨(some 6), none, .mov, [.tm 38]⟩])
 .ret)) }
theorem v20_is : vfunc Try.prog Try.f20 = some v20 := by kernel_rfl


def same1C : Ctr := sameC 1 enc1
def same2C : Ctr := sameC 2 enc2
def exP : List Part := [⟨3, 2, 500, 100⟩, ⟨1, 3, 300, 50⟩]
def exCh : Chain := ⟨false, exP, 900, 200⟩
def exC : Ctr := { alias := false, of := fun a => match a with
  | [] => .fin (.agg [.vs true false 2 4 (fun k => enc (exP.getD k default)), .int .i64 900, .int .i64 200]) []
  | _ => noC }

theorem ex25 : exC.ok Try.prog 25 := by
  refine contract Try.func25 v25_is E0_ok 200 exC fun args k h => ⟨args, ?_⟩
  simp only [exC] at h
  split at h
  · refine ⟨trivial, ?_⟩
    dsimp only [v25, r_end, r_end1, r_nil, r_op, r_opg, r_runOp, r_op0, r_yld0, r_yld1, r_y, r_rbeg, r_rend, r_rend1, r_rfrm, r_rfrm1, r_range, r_rangeK, r_rangeE, r_draw, r_dnil, r_dop, r_dopg, r_dplq, r_dplh, r_dq, r_dq0, r_dcl1, r_dcl0, r_dct1, r_dct0, r_dgd, r_dgq1, r_dgq0, r_dctG, r_op1, r_eff, r_eff0, r_call, r_call0, r_inl, r_g, r_gq, r_gc, r_effg, r_effg0, r_callg, r_callg0, r_fin, r_pre, r_imp, r_all, r_ex, r_fing, r_preg, r_exg, r_inBlock, r_inLoop, r_frame, r_frame1, r_skip, r_region, r_seq, r_cond, r_cond1, r_block, r_exit, r_exit1, r_exit2, r_ret, r_loop, s_args0, s_args1, s_xt, s_xc, padL, blankL, callee, callArgs, eff, ctOf, getL, setL, S.put, S.upd, unopts, unopt, unoptsO, unoptsB, lazyO, guardOf, gbool, eMov, eNot, eNeg, eConv, eExt, eLenArr, eLen, eLenStr, eEqb, eEqv, allEq, eNil, negIf, eBool2, eCmp, eAri, ari, eBit, eDiv, eSh, eMinMax, foldMin, foldMax, kEq, pure1, cmpB, VO.quiet, resVals, resVal, tupled, popRet, popTo, cond, Option.bind, Option.map, eNew, eBox, asCells, lenH, snocH, eFieldAddr, eField, eLoad, cellsAt, getH, setH, dropL, takeL, mkAgg, lenL, lenS, shift, shiftL, shiftH, viewN, viewL, view, andT, junks, List.append_nil, Nat.beq, eIdxAddr, eIdxArr, eIndex, eStore, storeAt, spliceL, ones, one, eSlice, eSliceArr, bounds, subLo, addLo, eMake, eAppend, readS, repL, buildCells, chunk, purgeL, purgeLL, purgeH, purge, refs, refsL, List.cons_append, List.nil_append, wrOps, wrAl, wrDops, wrC, junkAt, putAll, putHs, headOf, headK, keepG, List.append_eq, headX, chkP, apartP, apartB, blk, strip, runAl, yld, putPs, lenN, findR, notRound, jumpK, jumpPT, jcode, List.map_cons, List.map_nil, ite_self, reduceIte]
    simp only [true_and, and_true, imp_self, implies_true, decide_eq_true_eq, decide_eq_false_iff_not, Nat.reduceAdd, Nat.reduceLeDiff, Bool.not_not, reduceCtorEq, false_imp_iff, Bool.not_eq_true', Bool.not_eq_false', Bool.false_eq_true, and_self, forall_const, ne_eq, not_false_eq_true, Nat.reduceEqDiff]
    refine ⟨by decide, ans_le (show k _ [] from h) ?_ ?_⟩
    · dsimp only [expo, enc, r_end, r_end1, r_nil, r_op, r_opg, r_runOp, r_op0, r_yld0, r_yld1, r_y, r_rbeg, r_rend, r_rend1, r_rfrm, r_rfrm1, r_range, r_rangeK, r_rangeE, r_draw, r_dnil, r_dop, r_dopg, r_dplq, r_dplh, r_dq, r_dq0, r_dcl1, r_dcl0, r_dct1, r_dct0, r_dgd, r_dgq1, r_dgq0, r_dctG, r_op1, r_eff, r_eff0, r_call, r_call0, r_inl, r_g, r_gq, r_gc, r_effg, r_effg0, r_callg, r_callg0, r_fin, r_pre, r_imp, r_all, r_ex, r_fing, r_preg, r_exg, r_inBlock, r_inLoop, r_frame, r_frame1, r_skip, r_region, r_seq, r_cond, r_cond1, r_block, r_exit, r_exit1, r_exit2, r_ret, r_loop, s_args0, s_args1, s_xt, s_xc, padL, blankL, callee, callArgs, eff, ctOf, getL, setL, S.put, S.upd, unopts, unopt, unoptsO, unoptsB, lazyO, guardOf, gbool, eMov, eNot, eNeg, eConv, eExt, eLenArr, eLen, eLenStr, eEqb, eEqv, allEq, eNil, negIf, eBool2, eCmp, eAri, ari, eBit, eDiv, eSh, eMinMax, foldMin, foldMax, kEq, pure1, cmpB, VO.quiet, resVals, resVal, tupled, popRet, popTo, cond, Option.bind, Option.map, eNew, eBox, asCells, lenH, snocH, eFieldAddr, eField, eLoad, cellsAt, getH, setH, dropL, takeL, mkAgg, lenL, lenS, shift, shiftL, shiftH, viewN, viewL, view, andT, junks, List.append_nil, Nat.beq, eIdxAddr, eIdxArr, eIndex, eStore, storeAt, spliceL, ones, one, eSlice, eSliceArr, bounds, subLo, addLo, eMake, eAppend, readS, repL, buildCells, chunk, purgeL, purgeLL, purgeH, purge, refs, refsL, List.cons_append, List.nil_append, wrOps, wrAl, wrDops, wrC, junkAt, putAll, putHs, headOf, headK, keepG, List.append_eq, headX, chkP, apartP, apartB, blk, strip, runAl, yld, putPs, lenN, findR, notRound, jumpK, jumpPT, jcode, List.map_cons, List.map_nil, ite_self, reduceIte]
      simp only [leS_mk, leL_cons, leL_nil, le_junk, le_int, le_bool, le_nil, leLL_nil, leLL_cons, leH_cons, leH_nil, leH1_box, leH1_own, leH1_gone, le_vs, le_agg, le_tup, le_ptr, le_own, le_xp, le_fn, le_opt, le_val, le_elem, le_nil_own, le_nil_vs, leH_ghost, leL_chunk, leXL_id, bnd_int, bnd_bool, bnd_val, bnd_nil, bnd_junk, bnd_vs, bnd_xp, bnd_agg, bnd_tup, bnd_ptr, bnd_own, bnd_elem, bnd_fn, bnd_iface, bnd_opt, bndL_nil, bndL_cons, lenH_cons, lenH_nil, imp_self, implies_true, true_and, and_true]
      intro q hq
      match q, hq with
      | 0, _ => exact leXL_self _
      | 1, _ => exact leXL_self _
    · simp [freshS, freshL, enc]
  · exact h.1.elim

def H1 : Env := { ct := fun n => match n with | 25 => some exC | 9 => some TravC | 11 => some NeedC | 19 => some TouC | 16 => some regC | 18 => some same1C | _ => none, fn := fun _ => none, meth := fun _ _ => none }
theorem H1_ct25 : H1.ct 25 = some exC := rfl
theorem H1_ct9 : H1.ct 9 = some TravC := rfl
theorem H1_ct11 : H1.ct 11 = some NeedC := rfl
theorem H1_ct19 : H1.ct 19 = some TouC := rfl
theorem H1_ct16 : H1.ct 16 = some regC := rfl
theorem H1_ct18 : H1.ct 18 = some same1C := rfl
theorem H1_ok : EnvOk Try.prog H1 := by
  refine ⟨fun f c h => ?_, fun f vf h => ?_, fun _ _ => rfl, by kernel_rfl⟩
  · simp only [H1] at h
    split at h
    · cases h; exact ⟨ex25, Try.f25, Try.func25, by kernel_rfl, by kernel_rfl⟩
    · cases h; exact ⟨Trav9, Try.f9, Try.func9, by kernel_rfl, by kernel_rfl⟩
    · cases h; exact ⟨Need11, Try.f11, Try.func11, by kernel_rfl, by kernel_rfl⟩
    · cases h; exact ⟨Tou19, Try.f19, Try.func19, by kernel_rfl, by kernel_rfl⟩
    · cases h; exact ⟨Reg16, Try.f16, Try.func16, by kernel_rfl, by kernel_rfl⟩
    · cases h; exact ⟨same18, Try.f18, Try.func18, by kernel_rfl, by kernel_rfl⟩
    · cases h
  · cases h


def travelsC : Ctr := { alias := false, of := fun a => match a with
  | [.int .i64 turns, .int .i64 key, .int .i64 lo, .int .i64 hi] => .fin (.bool (decide (askedF exP 900 200 turns key = 0) && (decide (travLo exP 900 200 turns key = lo) && decide (travHi exP 900 200 turns key = hi)))) []
  | _ => noC }

theorem travels26 : travelsC.ok Try.prog 26 := by
  refine contract Try.func26 v26_is H1_ok 200 travelsC fun args k h => ⟨args, ?_⟩
  simp only [travelsC] at h
  split at h
  · refine ⟨by simp [leL, le], ?_⟩
    dsimp only [v26, H1_ct25, exC, H1_ct9, TravC, ch3C, enc, r_end, r_end1, r_nil, r_op, r_opg, r_runOp, r_op0, r_yld0, r_yld1, r_y, r_rbeg, r_rend, r_rend1, r_rfrm, r_rfrm1, r_range, r_rangeK, r_rangeE, r_draw, r_dnil, r_dop, r_dopg, r_dplq, r_dplh, r_dq, r_dq0, r_dcl1, r_dcl0, r_dct1, r_dct0, r_dgd, r_dgq1, r_dgq0, r_dctG, r_op1, r_eff, r_eff0, r_call, r_call0, r_inl, r_g, r_gq, r_gc, r_effg, r_effg0, r_callg, r_callg0, r_fin, r_pre, r_imp, r_all, r_ex, r_fing, r_preg, r_exg, r_inBlock, r_inLoop, r_frame, r_frame1, r_skip, r_region, r_seq, r_cond, r_cond1, r_block, r_exit, r_exit1, r_exit2, r_ret, r_loop, s_args0, s_args1, s_xt, s_xc, padL, blankL, callee, callArgs, eff, ctOf, getL, setL, S.put, S.upd, unopts, unopt, unoptsO, unoptsB, lazyO, guardOf, gbool, eMov, eNot, eNeg, eConv, eExt, eLenArr, eLen, eLenStr, eEqb, eEqv, allEq, eNil, negIf, eBool2, eCmp, eAri, ari, eBit, eDiv, eSh, eMinMax, foldMin, foldMax, kEq, pure1, cmpB, VO.quiet, resVals, resVal, tupled, popRet, popTo, cond, Option.bind, Option.map, eNew, eBox, asCells, lenH, snocH, eFieldAddr, eField, eLoad, cellsAt, getH, setH, dropL, takeL, mkAgg, lenL, lenS, shift, shiftL, shiftH, viewN, viewL, view, andT, junks, List.append_nil, Nat.beq, eIdxAddr, eIdxArr, eIndex, eStore, storeAt, spliceL, ones, one, eSlice, eSliceArr, bounds, subLo, addLo, eMake, eAppend, readS, repL, buildCells, chunk, purgeL, purgeLL, purgeH, purge, refs, refsL, List.cons_append, List.nil_append, wrOps, wrAl, wrDops, wrC, junkAt, putAll, putHs, headOf, headK, keepG, List.append_eq, headX, chkP, apartP, apartB, blk, strip, runAl, yld, putPs, lenN, findR, notRound, jumpK, jumpPT, jcode, List.map_cons, List.map_nil, ite_self, reduceIte]
    simp only [true_and, and_true, imp_self, implies_true, decide_eq_true_eq, decide_eq_false_iff_not, Nat.reduceAdd, Nat.reduceLeDiff, Bool.not_not, reduceCtorEq, false_imp_iff, Bool.not_eq_true', Bool.not_eq_false', Bool.false_eq_true, and_self, forall_const, ne_eq, not_false_eq_true, Nat.reduceEqDiff]
    refine ⟨exP, ⟨rfl, fun _ _ => rfl⟩, by decide, by decide, ans_bool ?_⟩
    simpa using (show k _ [] from h)
  · exact h.1.elim

def H2 : Env := { ct := fun n => match n with | 25 => some exC | 9 => some TravC | 11 => some NeedC | 19 => some TouC | 16 => some regC | 18 => some same1C | 26 => some travelsC | _ => none, fn := fun _ => none, meth := fun _ _ => none }
theorem H2_ct25 : H2.ct 25 = some exC := rfl
theorem H2_ct9 : H2.ct 9 = some TravC := rfl
theorem H2_ct11 : H2.ct 11 = some NeedC := rfl
theorem H2_ct19 : H2.ct 19 = some TouC := rfl
theorem H2_ct16 : H2.ct 16 = some regC := rfl
theorem H2_ct18 : H2.ct 18 = some same1C := rfl
theorem H2_ct26 : H2.ct 26 = some travelsC := rfl
theorem H2_ok : EnvOk Try.prog H2 := by
  refine ⟨fun f c h => ?_, fun f vf h => ?_, fun _ _ => rfl, by kernel_rfl⟩
  · simp only [H2] at h
    split at h
    · cases h; exact ⟨ex25, Try.f25, Try.func25, by kernel_rfl, by kernel_rfl⟩
    · cases h; exact ⟨Trav9, Try.f9, Try.func9, by kernel_rfl, by kernel_rfl⟩
    · cases h; exact ⟨Need11, Try.f11, Try.func11, by kernel_rfl, by kernel_rfl⟩
    · cases h; exact ⟨Tou19, Try.f19, Try.func19, by kernel_rfl, by kernel_rfl⟩
    · cases h; exact ⟨Reg16, Try.f16, Try.func16, by kernel_rfl, by kernel_rfl⟩
    · cases h; exact ⟨same18, Try.f18, Try.func18, by kernel_rfl, by kernel_rfl⟩
    · cases h; exact ⟨travels26, Try.f26, Try.func26, by kernel_rfl, by kernel_rfl⟩
    · cases h
  · cases h


def trueC : Ctr := { alias := false, of := fun a => match a with
  | [] => .fin (.bool true) []
  | _ => noC }

theorem exf1 : askedF exP 900 200 0 9500 = 0 ∧ travLo exP 900 200 0 9500 = 4400 ∧ travHi exP 900 200 0 9500 = 4400 := by decide +kernel
theorem exf2 : askedF exP 900 200 0 9501 = 0 ∧ travLo exP 900 200 0 9501 = 4400 ∧ travHi exP 900 200 0 9501 = 4401 := by decide +kernel
theorem exf3 : askedF exP 900 200 3 9500 = 0 ∧ travLo exP 900 200 3 9500 = 4650 ∧ travHi exP 900 200 3 9500 = 4650 := by decide +kernel
theorem exf4 : needF exP 900 200 0 4400 = (9500, 0) := by decide +kernel
theorem exf5 : touLo exP 900 200 = 625 ∧ touHi exP 900 200 = 625 ∧ checkF exP 900 200 = 0 := by decide +kernel
theorem exf6 : regF [exCh] 9500 4600 = ([2], 0) := by decide +kernel

theorem shown8 : trueC.ok Try.prog 8 := by
  refine contract Try.func8 v8_is H2_ok 400 trueC fun args k h => ⟨args, ?_⟩
  simp only [trueC] at h
  split at h
  · refine ⟨trivial, ?_⟩
    dsimp only [v8, H2_ct25, exC, H2_ct11, NeedC, ch3C, H2_ct19, TouC, chC, H2_ct16, regC, H2_ct18, same1C, sameC, H2_ct26, travelsC, enc, r_end, r_end1, r_nil, r_op, r_opg, r_runOp, r_op0, r_yld0, r_yld1, r_y, r_rbeg, r_rend, r_rend1, r_rfrm, r_rfrm1, r_range, r_rangeK, r_rangeE, r_draw, r_dnil, r_dop, r_dopg, r_dplq, r_dplh, r_dq, r_dq0, r_dcl1, r_dcl0, r_dct1, r_dct0, r_dgd, r_dgq1, r_dgq0, r_dctG, r_op1, r_eff, r_eff0, r_call, r_call0, r_inl, r_g, r_gq, r_gc, r_effg, r_effg0, r_callg, r_callg0, r_fin, r_pre, r_imp, r_all, r_ex, r_fing, r_preg, r_exg, r_inBlock, r_inLoop, r_frame, r_frame1, r_skip, r_region, r_seq, r_cond, r_cond1, r_block, r_exit, r_exit1, r_exit2, r_ret, r_loop, s_args0, s_args1, s_xt, s_xc, padL, blankL, callee, callArgs, eff, ctOf, getL, setL, S.put, S.upd, unopts, unopt, unoptsO, unoptsB, lazyO, guardOf, gbool, eMov, eNot, eNeg, eConv, eExt, eLenArr, eLen, eLenStr, eEqb, eEqv, allEq, eNil, negIf, eBool2, eCmp, eAri, ari, eBit, eDiv, eSh, eMinMax, foldMin, foldMax, kEq, pure1, cmpB, VO.quiet, resVals, resVal, tupled, popRet, popTo, cond, Option.bind, Option.map, eNew, eBox, asCells, lenH, snocH, eFieldAddr, eField, eLoad, cellsAt, getH, setH, dropL, takeL, mkAgg, lenL, lenS, shift, shiftL, shiftH, viewN, viewL, view, andT, junks, List.append_nil, Nat.beq, eIdxAddr, eIdxArr, eIndex, eStore, storeAt, spliceL, ones, one, eSlice, eSliceArr, bounds, subLo, addLo, eMake, eAppend, readS, repL, buildCells, chunk, purgeL, purgeLL, purgeH, purge, refs, refsL, List.cons_append, List.nil_append, wrOps, wrAl, wrDops, wrC, junkAt, putAll, putHs, headOf, headK, keepG, List.append_eq, headX, chkP, apartP, apartB, blk, strip, runAl, yld, putPs, lenN, findR, notRound, jumpK, jumpPT, jcode, List.map_cons, List.map_nil, ite_self, reduceIte]
    simp only [true_and, and_true, imp_self, implies_true, decide_eq_true_eq, decide_eq_false_iff_not, Nat.reduceAdd, Nat.reduceLeDiff, Bool.not_not, reduceCtorEq, false_imp_iff, Bool.not_eq_true', Bool.not_eq_false', Bool.false_eq_true, and_self, forall_const, ne_eq, not_false_eq_true, Nat.reduceEqDiff]
    refine ⟨exP, ⟨rfl, fun _ _ => rfl⟩, by decide, by decide, exP, ⟨rfl, fun _ _ => rfl⟩, by decide, by decide, by decide, [exCh], ⟨rfl, rfl, fun k hk => ?_⟩, by decide, by decide, ?_⟩
    · match k, hk with
      | 0, _ => exact leXL_self _
    · simp only [exf1, exf2, exf3, exf4, exf5, exf6, decide_true, Bool.and_self, forall_const, Bool.true_eq_false, false_imp_iff, and_true]
      refine ⟨by decide, [2], ⟨⟨rfl, rfl, fun k hk => ?_⟩, by decide⟩, [2], ⟨rfl, rfl, fun k hk => ?_⟩, ?_⟩
      · match k, hk with
        | 0, _ => exact leXL_self _
      · match k, hk with
        | 0, _ => exact leXL_self _
      · exact ans_bool h
  · exact h.1.elim
end Go.Proofs.Ytmhlinndhmdjlaa
