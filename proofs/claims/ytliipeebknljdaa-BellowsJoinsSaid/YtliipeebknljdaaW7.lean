/- Bellows: Need. -/
import Derived.Test.YtliipeebknljdaaW4
import Derived.Test.YtliipeebknljdaaS4
set_option linter.all false
namespace Go.Proofs.Ytliipeebknljdaa
open Go Go.Vx
set_option maxRecDepth 100000
set_option maxHeartbeats 4000000

def v21 : VF := { ntmps := 24, res := [.tmp 4, .tmp 5], body :=
 (.seq (.region [⟨(some 2), none, .box, [.tm 0]⟩,
  ⟨(some 3), none, .box, [.tm 1]⟩,
  ⟨(some 4), none, .mov, [.cn (.int .i64 0)]⟩,
  ⟨(some 5), none, .mov, [.cn (.int .i64 0)]⟩])
 (.seq (.seq (.region [⟨(some 8), none, (.load true 5), [.tm 2]⟩,
  ⟨(some 9), none, (.load false 1), [.tm 3]⟩,
  ⟨(some 10), none, (.call 27), [.tm 8, .tm 9]⟩,
  ⟨(some 6), none, .mov, [.tm 10]⟩])
 (.seq (.region [⟨(some 11), none, .mov, [.tm 6]⟩,
  ⟨(some 12), none, (.cmp .neq), [.tm 11, .cn (.int .i64 0)]⟩])
 (.cond (.tm 12) (.seq (.region [⟨(some 13), none, .mov, [.tm 6]⟩,
  ⟨(some 4), none, .mov, [.cn (.int .i64 0)]⟩,
  ⟨(some 5), none, .mov, [.tm 13]⟩])
 .ret)
  .skip)))
 (.seq (.region [⟨(some 14), none, (.fieldAddr 2), [.tm 2]⟩,
  ⟨(some 15), none, (.load false 1), [.tm 14]⟩,
  ⟨(some 16), none, (.ari .add), [.tm 15, .cn (.int .i64 1)]⟩,
  ⟨(some 17), none, (.mkfn (.func 39) 0), [.tm 2, .tm 3]⟩,
  ⟨(some 18), none, (.call 38), [.tm 16, .tm 17]⟩,
  ⟨(some 7), none, .mov, [.tm 18]⟩])
 (.seq (.seq (.region [⟨(some 19), none, .mov, [.tm 7]⟩,
  ⟨(some 20), none, (.fieldAddr 2), [.tm 2]⟩,
  ⟨(some 21), none, (.load false 1), [.tm 20]⟩,
  ⟨(some 22), none, (.cmp .gtr), [.tm 19, .tm 21]⟩])
 (.cond (.tm 22) (.seq (.region [⟨(some 4), none, .mov, [.cn (.int .i64 0)]⟩,
  ⟨(some 5), none, .mov, [.cn (.int .i64 4)]⟩])
 .ret)
  .skip))
 (.seq (.region [⟨(some 23), none, .mov, [.tm 7]⟩,
  ⟨(some 4), none, .mov, [.tm 23]⟩,
  ⟨(some 5), none, .mov, [.cn (.int .i64 0)]⟩])
 .ret))))) }
theorem v21_is : vfunc Try.prog Try.f21 = some v21 := by kernel_rfl
def v22 : VF := { ntmps := 58, res := [.tmp 4, .tmp 5], body :=
 (.seq (.region [⟨(some 2), none, .box, [.tm 0]⟩,
  ⟨(some 4), none, .mov, [.cn (.int .i64 0)]⟩,
  ⟨(some 5), none, .mov, [.cn (.int .i64 0)]⟩])
 (.seq (.region [⟨(some 13), none, (.load true 5), [.tm 2]⟩,
  ⟨(some 14), none, .mov, [.tm 1]⟩,
  ⟨(some 15), none, (.call 31), [.tm 13, .tm 14]⟩,
  ⟨(some 6), none, .mov, [.tm 15]⟩])
 (.seq (.seq (.region [⟨(some 16), none, .mov, [.tm 6]⟩,
  ⟨(some 17), none, (.cmp .neq), [.tm 16, .cn (.int .i64 0)]⟩])
 (.cond (.tm 17) (.seq (.region [⟨(some 18), none, .mov, [.tm 6]⟩,
  ⟨(some 4), none, .mov, [.cn (.int .i64 0)]⟩,
  ⟨(some 5), none, .mov, [.tm 18]⟩])
 .ret)
  .skip))
 (.seq (.draw [] [⟨⟨(some 19), none, (.fieldAddr 2), [.tm 2]⟩, []⟩,
  ⟨⟨(some 20), none, (.load false 1), [.tm 19]⟩, []⟩,
  ⟨⟨(some 7), none, .mov, [.cn (.int .i64 (-1))]⟩, []⟩,
  ⟨⟨(some 8), none, .mov, [.tm 20]⟩, []⟩])
 (.seq (.region [⟨(some 21), none, (.load true 5), [.tm 2]⟩,
  ⟨(some 9), none, (.alloc [(.int .i64 0), (.int .i64 0), (.int .i64 0), (.int .i64 0), (.int .i64 0)]), []⟩,
  ⟨none, none, (.store 5), [.tm 9, .tm 21]⟩])
 (.seq (.region [⟨(some 22), none, .mov, [.tm 8]⟩,
  ⟨(some 23), none, (.fieldAddr 0), [.tm 9]⟩,
  ⟨none, none, (.store 1), [.tm 23, .tm 22]⟩])
 (.seq (.region [⟨(some 25), none, (.load true 5), [.tm 9]⟩,
  ⟨(some 26), none, .mov, [.tm 1]⟩,
  ⟨(some 27), none, (.call 15), [.tm 25, .tm 26]⟩,
  ⟨(some 24), none, .mov, [.tm 27]⟩,
  ⟨(some 28), none, (.ext 0), [.tm 24]⟩,
  ⟨(some 29), none, (.ext 1), [.tm 24]⟩,
  ⟨(some 30), none, (.ext 2), [.tm 24]⟩,
  ⟨(some 10), none, .mov, [.tm 28]⟩,
  ⟨(some 11), none, .mov, [.tm 29]⟩,
  ⟨(some 12), none, .mov, [.tm 30]⟩])
 (.seq (.seq (.region [⟨(some 31), none, .mov, [.tm 10]⟩,
  ⟨(some 32), none, (.cmp .geq), [.tm 31, .cn (.int .i64 0)]⟩])
 (.cond (.tm 32) (.seq (.region [⟨(some 4), none, .mov, [.cn (.int .i64 0)]⟩,
  ⟨(some 5), none, .mov, [.cn (.int .i64 4)]⟩])
 .ret)
  .skip))
 (.seq (.block 0 (.loop (.seq (.seq (.region [⟨(some 33), none, .mov, [.tm 8]⟩,
  ⟨(some 34), none, .mov, [.tm 7]⟩,
  ⟨(some 35), none, (.ari .sub), [.tm 33, .tm 34]⟩,
  ⟨(some 36), none, (.cmp .gtr), [.tm 35, .cn (.int .i64 1)]⟩])
 (.cond (.tm 36) .skip
  (.exit 0)))
 (.block 1 (.seq (.region [⟨(some 37), none, .mov, [.tm 7]⟩,
  ⟨(some 38), none, .mov, [.tm 8]⟩,
  ⟨(some 39), none, .mov, [.tm 7]⟩,
  ⟨(some 40), none, (.ari .sub), [.tm 38, .tm 39]⟩,
  ⟨(some 41), none, .quo, [.tm 40, .cn (.int .i64 2)]⟩,
  ⟨(some 42), none, (.ari .add), [.tm 37, .tm 41]⟩,
  ⟨(some 43), none, (.fieldAddr 0), [.tm 9]⟩,
  ⟨none, none, (.store 1), [.tm 43, .tm 42]⟩])
 (.seq (.region [⟨(some 45), none, (.load true 5), [.tm 9]⟩,
  ⟨(some 46), none, .mov, [.tm 1]⟩,
  ⟨(some 47), none, (.call 15), [.tm 45, .tm 46]⟩,
  ⟨(some 44), none, .mov, [.tm 47]⟩,
  ⟨(some 48), none, (.ext 0), [.tm 44]⟩,
  ⟨(some 49), none, (.ext 1), [.tm 44]⟩,
  ⟨(some 50), none, (.ext 2), [.tm 44]⟩,
  ⟨(some 10), none, .mov, [.tm 48]⟩])
 (.seq (.region [⟨(some 51), none, .mov, [.tm 10]⟩,
  ⟨(some 52), none, (.cmp .lss), [.tm 51, .cn (.int .i64 0)]⟩])
 (.cond (.tm 52) (.region [⟨(some 53), none, (.fieldAddr 0), [.tm 9]⟩,
  ⟨(some 54), none, (.load false 1), [.tm 53]⟩,
  ⟨(some 8), none, .mov, [.tm 54]⟩])
  (.region [⟨(some 55), none, (.fieldAddr 0), [.tm 9]⟩,
  ⟨(some 56), none, (.load false 1), [.tm 55]⟩,
  ⟨(some 7), none, .mov, [.tm 56]⟩])))))))))
 (.seq (.region [⟨(some 57), none, .mov, [.tm 8]⟩,
  ⟨(some 4), none, .mov, [.tm 57]⟩,
  ⟨(some 5), none, .mov, [.cn (.int .i64 0)]⟩])
 .ret)))))))))) }
theorem v22_is : vfunc Try.prog Try.f22 = some v22 := by kernel_rfl
def v38 : VF := { ntmps := 26, res := [.tmp 4], body :=
 (.seq (.region [⟨(some 4), none, .mov, [.cn (.int .i64 0)]⟩])
 (.seq (.region [⟨(some 8), none, .mov, [.tm 0]⟩,
  ⟨(some 5), none, .mov, [.cn (.int .i64 0)]⟩,
  ⟨(some 6), none, .mov, [.tm 8]⟩])
 (.seq (.block 0 (.loop (.seq (.seq (.region [⟨(some 9), none, .mov, [.tm 5]⟩,
  ⟨(some 10), none, .mov, [.tm 6]⟩,
  ⟨(some 11), none, (.cmp .lss), [.tm 9, .tm 10]⟩])
 (.cond (.tm 11) .skip
  (.exit 0)))
 (.block 1 (.seq (.region [⟨(some 12), none, .mov, [.tm 5]⟩,
  ⟨(some 13), none, .mov, [.tm 6]⟩,
  ⟨(some 14), none, (.ari .add), [.tm 12, .tm 13]⟩,
  ⟨(some 15), none, (.conv .u64), [.tm 14]⟩,
  ⟨(some 16), none, .shr, [.tm 15, .cn (.int .u64 1)]⟩,
  ⟨(some 17), none, (.conv .i64), [.tm 16]⟩,
  ⟨(some 7), none, .mov, [.tm 17]⟩])
 (.seq (.region [⟨(some 18), none, .mov, [.tm 1]⟩,
  ⟨(some 19), none, .mov, [.tm 7]⟩,
  ⟨(some 20), none, .callv, [.tm 18, .tm 19]⟩,
  ⟨(some 21), none, .not, [.tm 20]⟩])
 (.cond (.tm 21) (.region [⟨(some 22), none, .mov, [.tm 7]⟩,
  ⟨(some 23), none, (.ari .add), [.tm 22, .cn (.int .i64 1)]⟩,
  ⟨(some 5), none, .mov, [.tm 23]⟩])
  (.region [⟨(some 24), none, .mov, [.tm 7]⟩,
  ⟨(some 6), none, .mov, [.tm 24]⟩]))))))))
 (.seq (.region [⟨(some 25), none, .mov, [.tm 5]⟩,
  ⟨(some 4), none, .mov, [.tm 25]⟩])
 .ret)))) }
theorem v38_is : vfunc Try.prog Try.f38 = some v38 := by kernel_rfl
def v39 : VF := { ntmps := 14, res := [.tmp 4], body :=
 (.seq (.region [⟨(some 4), none, .mov, [.cn (.bool false)]⟩])
 (.seq (.region [⟨(some 6), none, (.load true 5), [.tm 1]⟩,
  ⟨(some 5), none, (.alloc [(.int .i64 0), (.int .i64 0), (.int .i64 0), (.int .i64 0), (.int .i64 0)]), []⟩,
  ⟨none, none, (.store 5), [.tm 5, .tm 6]⟩])
 (.seq (.region [⟨(some 7), none, .mov, [.tm 0]⟩,
  ⟨(some 8), none, (.fieldAddr 0), [.tm 5]⟩,
  ⟨none, none, (.store 1), [.tm 8, .tm 7]⟩])
 (.seq (.draw [] [⟨⟨(some 9), none, (.load true 5), [.tm 5]⟩, []⟩,
  ⟨⟨(some 11), none, (.load false 1), [.tm 2]⟩, []⟩,
  ⟨⟨(some 10), none, (.call 28), [.tm 9]⟩, []⟩,
  ⟨⟨(some 12), none, (.call 33), [.tm 10, .tm 11]⟩, []⟩,
  ⟨⟨(some 13), none, (.cmp .lss), [.tm 12, .cn (.int .i64 0)]⟩, []⟩,
  ⟨⟨(some 4), none, .mov, [.tm 13]⟩, []⟩])
 .ret)))) }
theorem v39_is : vfunc Try.prog Try.f39 = some v39 := by kernel_rfl


def N1 : Env := { ct := fun n => match n with | 27 => some askC | 31 => some askC | 28 => some worstC | 33 => some failC | 15 => some failsC | _ => none, fn := fun n => match n with | 38 => some v38 | 39 => some v39 | _ => none, meth := fun _ _ => none }
theorem N1_ct27 : N1.ct 27 = some askC := rfl
theorem N1_ct31 : N1.ct 31 = some askC := rfl
theorem N1_ct28 : N1.ct 28 = some worstC := rfl
theorem N1_ct33 : N1.ct 33 = some failC := rfl
theorem N1_ct15 : N1.ct 15 = some failsC := rfl
theorem N1_ct38 : N1.ct 38 = none := rfl
theorem N1_fn38 : N1.fn 38 = some v38 := rfl
theorem N1_ct39 : N1.ct 39 = none := rfl
theorem N1_fn39 : N1.fn 39 = some v39 := rfl
theorem N1_ok : EnvOk Try.prog N1 := by
  refine ⟨fun f c h => ?_, fun f vf h => ?_, fun _ _ => rfl, by kernel_rfl⟩
  · simp only [N1] at h
    split at h
    · cases h; exact ⟨ask27, Try.f27, Try.func27, by kernel_rfl, by kernel_rfl⟩
    · cases h; exact ⟨ask31, Try.f31, Try.func31, by kernel_rfl, by kernel_rfl⟩
    · cases h; exact ⟨worst28, Try.f28, Try.func28, by kernel_rfl, by kernel_rfl⟩
    · cases h; exact ⟨fail33, Try.f33, Try.func33, by kernel_rfl, by kernel_rfl⟩
    · cases h; exact ⟨fails15, Try.f15, Try.func15, by kernel_rfl, by kernel_rfl⟩
    · cases h
  · simp only [N1] at h
    split at h
    · cases h; exact ⟨Try.f38, Try.func38, v38_is, Try.f38, Try.func38, by kernel_rfl, by kernel_rfl⟩
    · cases h; exact ⟨Try.f39, Try.func39, v39_is, Try.f39, Try.func39, by kernel_rfl, by kernel_rfl⟩
    · cases h


def needC : Ctr := demC fun b l => .tup [.int .i64 (needF b l).1, .int .i64 (needF b l).2]

theorem need21 : needC.ok Try.prog 21 := by
  refine contract Try.func21 v21_is N1_ok 800 needC fun args k h => ?_
  simp only [needC, demC] at h
  split at h
  · rename_i st lo hi il ih tt z n sz get
    obtain ⟨l, ⟨⟨rfl, rfl, hg⟩, hmax⟩, h⟩ := h
    refine ⟨[.agg [.int .i64 st, .int .i64 lo, .int .i64 hi, .int .i64 il, .int .i64 ih], .vs tt z l.length 2 (fun k => enc2 (l.getD k default))], by simpa [leL, le] using hg, ?_⟩
    dsimp only [v21, N1_ct27, askC, N1_ct38, N1_fn38, v38, N1_ct39, N1_fn39, v39, enc2, r_end, r_end1, r_nil, r_op, r_opg, r_runOp, r_op0, r_yld0, r_yld1, r_y, r_rbeg, r_rend, r_rend1, r_rfrm, r_rfrm1, r_range, r_rangeK, r_rangeE, r_draw, r_dnil, r_dop, r_dopg, r_dplq, r_dplh, r_dq, r_dq0, r_dcl1, r_dcl0, r_dct1, r_dct0, r_dgd, r_dgq1, r_dgq0, r_dctG, r_op1, r_eff, r_eff0, r_call, r_call0, r_inl, r_g, r_gq, r_gc, r_effg, r_effg0, r_callg, r_callg0, r_fin, r_pre, r_imp, r_all, r_ex, r_fing, r_preg, r_exg, r_inBlock, r_inLoop, r_frame, r_frame1, r_skip, r_region, r_seq, r_cond, r_cond1, r_block, r_exit, r_exit1, r_exit2, r_ret, r_loop, s_args0, s_args1, s_xt, s_xc, padL, blankL, callee, callArgs, eff, ctOf, getL, setL, S.put, S.upd, unopts, unopt, unoptsO, unoptsB, lazyO, guardOf, gbool, eMov, eNot, eNeg, eConv, eExt, eLenArr, eLen, eLenStr, eEqb, eEqv, allEq, eNil, negIf, eBool2, eCmp, eAri, ari, eBit, eDiv, eSh, eMinMax, foldMin, foldMax, kEq, pure1, cmpB, VO.quiet, resVals, resVal, tupled, popRet, popTo, cond, Option.bind, Option.map, eNew, eBox, asCells, lenH, snocH, eFieldAddr, eField, eLoad, cellsAt, getH, setH, dropL, takeL, mkAgg, lenL, lenS, shift, shiftL, shiftH, viewN, viewL, view, andT, junks, List.append_nil, Nat.beq, eIdxAddr, eIdxArr, eIndex, eStore, storeAt, spliceL, ones, one, eSlice, eSliceArr, bounds, subLo, addLo, eMake, eAppend, readS, repL, buildCells, chunk, purgeL, purgeLL, purgeH, purge, refs, refsL, List.cons_append, List.nil_append, wrOps, wrAl, wrDops, wrC, junkAt, putAll, putHs, headOf, headK, keepG, List.append_eq, headX, chkP, apartP, apartB, blk, strip, runAl, yld, putPs, lenN, findR, notRound, jumpK, jumpPT, jcode, List.map_cons, List.map_nil, ite_self, reduceIte]
    simp only [true_and, and_true, imp_self, implies_true, decide_eq_true_eq, decide_eq_false_iff_not, Nat.reduceAdd, Nat.reduceLeDiff, Bool.not_not, reduceCtorEq, false_imp_iff, Bool.not_eq_true', Bool.not_eq_false', Bool.false_eq_true, and_self, forall_const, ne_eq, not_false_eq_true, Nat.reduceEqDiff]
    refine ⟨l, ⟨lsP_self, hmax⟩, fun he => ?_, fun he => ?_⟩
    · rw [needF, if_pos he] at h
      exact ans_le (show k _ [] from h) (by simp [expo, view, viewL, le, leL]) (by simp [freshS, freshL])
    · obtain ⟨hb, h1000, hd⟩ := ask_ok he
      have hne := fit_ne (fit_il hb)
      have hbo := bel_ok hb
      obtain ⟨H, hH⟩ : ∃ H : Nat, hi = (H : Int) := ⟨hi.toNat, by simp only at hbo; omega⟩
      subst hH
      have hw1 : IntKind.i64.wrap ((H : Int) + 1) = ((H + 1 : Nat) : Int) := by simp only at hbo; rw [w6_raw (by omega) (by omega)]; omega
      have hHb : H ≤ 4000000000 := by simp only at hbo; omega
      have hmono := fun (v u : Nat) (a : v ≤ u) (c : u ≤ H) => okAt_mono (b := ⟨st, lo, H, il, ih⟩) he a (by simp only; omega)
      rw [hw1]
      refine Loop.keep [1, 3, 0] (Nat × Nat) (fun x => [(5, .int .i64 x.1), (6, .int .i64 x.2)]) (fun _ => []) [] (fun x => x.1 ≤ x.2 ∧ x.2 ≤ H + 1 ∧ (∀ j, j < x.1 → okAt ⟨st, lo, H, il, ih⟩ l j = false) ∧ (x.2 < H + 1 → okAt ⟨st, lo, H, il, ih⟩ l x.2 = true)) (fun x => x.2 - x.1) ?_ ?_
      · refine ⟨(0, H + 1), ⟨by simp, by simp, fun j h => by simp at h, fun h => by simp at h⟩, ?_⟩
        dsimp only [r_end, r_end1, r_nil, r_op, r_opg, r_runOp, r_op0, r_yld0, r_yld1, r_y, r_rbeg, r_rend, r_rend1, r_rfrm, r_rfrm1, r_range, r_rangeK, r_rangeE, r_draw, r_dnil, r_dop, r_dopg, r_dplq, r_dplh, r_dq, r_dq0, r_dcl1, r_dcl0, r_dct1, r_dct0, r_dgd, r_dgq1, r_dgq0, r_dctG, r_op1, r_eff, r_eff0, r_call, r_call0, r_inl, r_g, r_gq, r_gc, r_effg, r_effg0, r_callg, r_callg0, r_fin, r_pre, r_imp, r_all, r_ex, r_fing, r_preg, r_exg, r_inBlock, r_inLoop, r_frame, r_frame1, r_skip, r_region, r_seq, r_cond, r_cond1, r_block, r_exit, r_exit1, r_exit2, r_ret, r_loop, s_args0, s_args1, s_xt, s_xc, padL, blankL, callee, callArgs, eff, ctOf, getL, setL, S.put, S.upd, unopts, unopt, unoptsO, unoptsB, lazyO, guardOf, gbool, eMov, eNot, eNeg, eConv, eExt, eLenArr, eLen, eLenStr, eEqb, eEqv, allEq, eNil, negIf, eBool2, eCmp, eAri, ari, eBit, eDiv, eSh, eMinMax, foldMin, foldMax, kEq, pure1, cmpB, VO.quiet, resVals, resVal, tupled, popRet, popTo, cond, Option.bind, Option.map, eNew, eBox, asCells, lenH, snocH, eFieldAddr, eField, eLoad, cellsAt, getH, setH, dropL, takeL, mkAgg, lenL, lenS, shift, shiftL, shiftH, viewN, viewL, view, andT, junks, List.append_nil, Nat.beq, eIdxAddr, eIdxArr, eIndex, eStore, storeAt, spliceL, ones, one, eSlice, eSliceArr, bounds, subLo, addLo, eMake, eAppend, readS, repL, buildCells, chunk, purgeL, purgeLL, purgeH, purge, refs, refsL, List.cons_append, List.nil_append, wrOps, wrAl, wrDops, wrC, junkAt, putAll, putHs, headOf, headK, keepG, List.append_eq, headX, chkP, apartP, apartB, blk, strip, runAl, yld, putPs, lenN, findR, notRound, jumpK, jumpPT, jcode, List.map_cons, List.map_nil, ite_self, reduceIte]
        simp only [leS_mk, leL_cons, leL_nil, le_junk, le_int, le_bool, le_nil, leLL_nil, leLL_cons, leH_cons, leH_nil, leH1_box, leH1_own, leH1_gone, le_vs, le_agg, le_tup, le_ptr, le_own, le_xp, le_fn, le_opt, le_val, le_elem, le_nil_own, le_nil_vs, leH_ghost, leL_chunk, leXL_id, bnd_int, bnd_bool, bnd_val, bnd_nil, bnd_junk, bnd_vs, bnd_xp, bnd_agg, bnd_tup, bnd_ptr, bnd_own, bnd_elem, bnd_fn, bnd_iface, bnd_opt, bndL_nil, bndL_cons, lenH_cons, lenH_nil, imp_self, implies_true, true_and, and_true] <;> simp
      · rintro ⟨a, c⟩ ⟨hab, hb2, hlo, hhi⟩
        dsimp only [N1_ct39, N1_fn39, v39, N1_ct28, worstC, crsC, N1_ct33, failC, crsP, enc2, Int.toNat_natCast, r_end, r_end1, r_nil, r_op, r_opg, r_runOp, r_op0, r_yld0, r_yld1, r_y, r_rbeg, r_rend, r_rend1, r_rfrm, r_rfrm1, r_range, r_rangeK, r_rangeE, r_draw, r_dnil, r_dop, r_dopg, r_dplq, r_dplh, r_dq, r_dq0, r_dcl1, r_dcl0, r_dct1, r_dct0, r_dgd, r_dgq1, r_dgq0, r_dctG, r_op1, r_eff, r_eff0, r_call, r_call0, r_inl, r_g, r_gq, r_gc, r_effg, r_effg0, r_callg, r_callg0, r_fin, r_pre, r_imp, r_all, r_ex, r_fing, r_preg, r_exg, r_inBlock, r_inLoop, r_frame, r_frame1, r_skip, r_region, r_seq, r_cond, r_cond1, r_block, r_exit, r_exit1, r_exit2, r_ret, r_loop, s_args0, s_args1, s_xt, s_xc, padL, blankL, callee, callArgs, eff, ctOf, getL, setL, S.put, S.upd, unopts, unopt, unoptsO, unoptsB, lazyO, guardOf, gbool, eMov, eNot, eNeg, eConv, eExt, eLenArr, eLen, eLenStr, eEqb, eEqv, allEq, eNil, negIf, eBool2, eCmp, eAri, ari, eBit, eDiv, eSh, eMinMax, foldMin, foldMax, kEq, pure1, cmpB, VO.quiet, resVals, resVal, tupled, popRet, popTo, cond, Option.bind, Option.map, eNew, eBox, asCells, lenH, snocH, eFieldAddr, eField, eLoad, cellsAt, getH, setH, dropL, takeL, mkAgg, lenL, lenS, shift, shiftL, shiftH, viewN, viewL, view, andT, junks, List.append_nil, Nat.beq, eIdxAddr, eIdxArr, eIndex, eStore, storeAt, spliceL, ones, one, eSlice, eSliceArr, bounds, subLo, addLo, eMake, eAppend, readS, repL, buildCells, chunk, purgeL, purgeLL, purgeH, purge, refs, refsL, List.cons_append, List.nil_append, wrOps, wrAl, wrDops, wrC, junkAt, putAll, putHs, headOf, headK, keepG, List.append_eq, headX, chkP, apartP, apartB, blk, strip, runAl, yld, putPs, lenN, findR, notRound, jumpK, jumpPT, jcode, List.map_cons, List.map_nil, ite_self, reduceIte]
        simp only [true_and, and_true, imp_self, implies_true, decide_eq_true_eq, decide_eq_false_iff_not, Nat.reduceAdd, Nat.reduceLeDiff, Bool.not_not, reduceCtorEq, false_imp_iff, Bool.not_eq_true', Bool.not_eq_false', Bool.false_eq_true, and_self, forall_const, ne_eq, not_false_eq_true, Nat.reduceEqDiff]
        simp only at hab hb2 hlo hhi
        have hm := mid (i := a) (j := c) (m := H + 1) (by omega) (by omega) (by omega)
        simp only [hm]
        refine ⟨fun hlt => ⟨by decide, ?_⟩, fun hge => ?_⟩
        · have hmid : a ≤ (a + c) / 2 ∧ (a + c) / 2 < c := by omega
          generalize (a + c) / 2 = m at hmid
          refine ⟨true, l, ⟨rfl, lsP_self, h1000, hne⟩, fun hno => ?_, fun hyes => ?_⟩
          · have hf : okAt ⟨st, lo, H, il, ih⟩ l m = false := decide_eq_false hno
            refine ⟨(m + 1, c), ⟨by simp only; omega, hb2, fun j hj => ?_, hhi⟩, by simp only; omega, ?_⟩
            · cases hj2 : okAt ⟨st, lo, H, il, ih⟩ l j with
              | false => rfl
              | true =>
                simp only at hj
                rw [hmono j m (by omega) (by omega) hj2] at hf; cases hf
            · have hs := w_succ (i := m) (n := H + 1) (by omega) (by omega)
              simp only [hs, leS_mk, leL_cons, leL_nil, le_junk, le_int, le_bool, le_nil, leLL_nil, leLL_cons, leH_cons, leH_nil, leH1_box, leH1_own, leH1_gone, le_vs, le_agg, le_tup, le_ptr, le_own, le_xp, le_fn, le_opt, le_val, le_elem, le_nil_own, le_nil_vs, leH_ghost, leL_chunk, leXL_id, bnd_int, bnd_bool, bnd_val, bnd_nil, bnd_junk, bnd_vs, bnd_xp, bnd_agg, bnd_tup, bnd_ptr, bnd_own, bnd_elem, bnd_fn, bnd_iface, bnd_opt, bndL_nil, bndL_cons, lenH_cons, lenH_nil, imp_self, implies_true, true_and, and_true]
              simp
          · have hf : okAt ⟨st, lo, H, il, ih⟩ l m = true := decide_eq_true hyes
            refine ⟨(a, m), ⟨hmid.1, by simp only; omega, hlo, fun _ => hf⟩, by simp only; omega, ?_⟩
            simp only [leS_mk, leL_cons, leL_nil, le_junk, le_int, le_bool, le_nil, leLL_nil, leLL_cons, leH_cons, leH_nil, leH1_box, leH1_own, leH1_gone, le_vs, le_agg, le_tup, le_ptr, le_own, le_xp, le_fn, le_opt, le_val, le_elem, le_nil_own, le_nil_vs, leH_ghost, leL_chunk, leXL_id, bnd_int, bnd_bool, bnd_val, bnd_nil, bnd_junk, bnd_vs, bnd_xp, bnd_agg, bnd_tup, bnd_ptr, bnd_own, bnd_elem, bnd_fn, bnd_iface, bnd_opt, bndL_nil, bndL_cons, lenH_cons, lenH_nil, imp_self, implies_true, true_and, and_true]
            simp
        · have hea : needN ⟨st, lo, H, il, ih⟩ l = a := leastF_eq (f := okAt ⟨st, lo, H, il, ih⟩ l) hlo (by show a ≤ (H : Int).toNat + 1; omega) (fun ha => by
            have ha' : a < H + 1 := by simpa using ha
            have := hhi (by omega); rwa [show c = a by omega] at this)
          rw [needF, if_neg (by rw [he]; simp), hea] at h
          refine ⟨fun hbig => ?_, fun hsm => ?_⟩
          · rw [if_pos hbig] at h
            exact ans_le (show k _ [] from h) (by simp [expo, view, viewL, le, leL]) (by simp [freshS, freshL])
          · rw [if_neg hsm] at h
            exact ans_le (show k _ [] from h) (by simp [expo, view, viewL, le, leL]) (by simp [freshS, freshL])
  · exact h.1.elim

theorem need22 : needC.ok Try.prog 22 := by
  refine contract Try.func22 v22_is N1_ok 800 needC fun args k h => ?_
  simp only [needC, demC] at h
  split at h
  · rename_i st lo hi il ih tt z n sz get
    obtain ⟨l, ⟨⟨rfl, rfl, hg⟩, hmax⟩, h⟩ := h
    refine ⟨[.agg [.int .i64 st, .int .i64 lo, .int .i64 hi, .int .i64 il, .int .i64 ih], .vs tt z l.length 2 (fun k => enc2 (l.getD k default))], by simpa [leL, le] using hg, ?_⟩
    dsimp only [v22, N1_ct31, askC, N1_ct15, failsC, demC, enc2, r_end, r_end1, r_nil, r_op, r_opg, r_runOp, r_op0, r_yld0, r_yld1, r_y, r_rbeg, r_rend, r_rend1, r_rfrm, r_rfrm1, r_range, r_rangeK, r_rangeE, r_draw, r_dnil, r_dop, r_dopg, r_dplq, r_dplh, r_dq, r_dq0, r_dcl1, r_dcl0, r_dct1, r_dct0, r_dgd, r_dgq1, r_dgq0, r_dctG, r_op1, r_eff, r_eff0, r_call, r_call0, r_inl, r_g, r_gq, r_gc, r_effg, r_effg0, r_callg, r_callg0, r_fin, r_pre, r_imp, r_all, r_ex, r_fing, r_preg, r_exg, r_inBlock, r_inLoop, r_frame, r_frame1, r_skip, r_region, r_seq, r_cond, r_cond1, r_block, r_exit, r_exit1, r_exit2, r_ret, r_loop, s_args0, s_args1, s_xt, s_xc, padL, blankL, callee, callArgs, eff, ctOf, getL, setL, S.put, S.upd, unopts, unopt, unoptsO, unoptsB, lazyO, guardOf, gbool, eMov, eNot, eNeg, eConv, eExt, eLenArr, eLen, eLenStr, eEqb, eEqv, allEq, eNil, negIf, eBool2, eCmp, eAri, ari, eBit, eDiv, eSh, eMinMax, foldMin, foldMax, kEq, pure1, cmpB, VO.quiet, resVals, resVal, tupled, popRet, popTo, cond, Option.bind, Option.map, eNew, eBox, asCells, lenH, snocH, eFieldAddr, eField, eLoad, cellsAt, getH, setH, dropL, takeL, mkAgg, lenL, lenS, shift, shiftL, shiftH, viewN, viewL, view, andT, junks, List.append_nil, Nat.beq, eIdxAddr, eIdxArr, eIndex, eStore, storeAt, spliceL, ones, one, eSlice, eSliceArr, bounds, subLo, addLo, eMake, eAppend, readS, repL, buildCells, chunk, purgeL, purgeLL, purgeH, purge, refs, refsL, List.cons_append, List.nil_append, wrOps, wrAl, wrDops, wrC, junkAt, putAll, putHs, headOf, headK, keepG, List.append_eq, headX, chkP, apartP, apartB, blk, strip, runAl, yld, putPs, lenN, findR, notRound, jumpK, jumpPT, jcode, List.map_cons, List.map_nil, ite_self, reduceIte]
    simp only [true_and, and_true, imp_self, implies_true, decide_eq_true_eq, decide_eq_false_iff_not, Nat.reduceAdd, Nat.reduceLeDiff, Bool.not_not, reduceCtorEq, false_imp_iff, Bool.not_eq_true', Bool.not_eq_false', Bool.false_eq_true, and_self, forall_const, ne_eq, not_false_eq_true, Nat.reduceEqDiff]
    refine ⟨l, ⟨lsP_self, hmax⟩, fun he => ?_, fun he => ?_⟩
    · rw [needF, if_pos he] at h
      exact ans_le (show k _ [] from h) (by simp [expo, view, viewL, le, leL]) (by simp [freshS, freshL])
    · obtain ⟨hb, h1000, hd⟩ := ask_ok he
      have hbo := bel_ok hb
      obtain ⟨H, hH⟩ : ∃ H : Nat, hi = (H : Int) := ⟨hi.toNat, by simp only at hbo; omega⟩
      subst hH
      have hHb : H ≤ 4000000000 := by simp only at hbo; omega
      have hmono := fun (v u : Nat) (a : v ≤ u) (c : u ≤ H) => okAt_mono (b := ⟨st, lo, H, il, ih⟩) he a (by simp only; omega)
      have hok : ∀ m : Nat, m ≤ H → ((failsF ⟨(m : Int), lo, H, il, ih⟩ l).1 < 0 ↔ okAt ⟨st, lo, H, il, ih⟩ l m = true) := fun m hm => fails_ok (b := ⟨st, lo, H, il, ih⟩) he (by simp only; omega)
      refine ⟨l, ⟨lsP_self, hmax⟩, by decide, by decide, by decide, fun hc => ?_, fun hc => ?_⟩
      · have hno : okAt ⟨st, lo, H, il, ih⟩ l H = false := by
          rw [Bool.eq_false_iff]; intro ht; have := (hok H (Nat.le_refl _)).2 ht; omega
        have hea : needN ⟨st, lo, H, il, ih⟩ l = H + 1 := leastF_eq (f := okAt ⟨st, lo, H, il, ih⟩ l) (fun j hj => by
          cases hj2 : okAt ⟨st, lo, H, il, ih⟩ l j with
          | false => rfl
          | true => rw [hmono j H (by omega) (Nat.le_refl _) hj2] at hno; cases hno) (by show H + 1 ≤ (H : Int).toNat + 1; omega) (fun ha => by
            have ha' : H + 1 < (H : Int).toNat + 1 := ha
            omega)
        rw [needF, if_neg (by rw [he]; simp), hea, if_pos (by simp only; omega)] at h
        exact ans_le (show k _ [] from h) (by simp [expo, view, viewL, le, leL]) (by simp [freshS, freshL])
      · refine Loop.keep [1, 0, 4, 0, 0] (Nat × Nat × Int) (fun x => [(7, .int .i64 ((x.1 : Int) - 1)), (8, .int .i64 x.2.1)]) (fun x => [(1, .box [.int .i64 x.2.2, .int .i64 lo, .int .i64 H, .int .i64 il, .int .i64 ih])]) [] (fun x => x.1 ≤ x.2.1 ∧ x.2.1 ≤ H ∧ (∀ j, j < x.1 → okAt ⟨st, lo, H, il, ih⟩ l j = false) ∧ okAt ⟨st, lo, H, il, ih⟩ l x.2.1 = true) (fun x => x.2.1 - x.1) ?_ ?_
        · refine ⟨(0, H, H), ⟨by simp, by simp, fun j h => by simp at h, (hok H (Nat.le_refl _)).1 (by omega)⟩, ?_⟩
          dsimp only [r_end, r_end1, r_nil, r_op, r_opg, r_runOp, r_op0, r_yld0, r_yld1, r_y, r_rbeg, r_rend, r_rend1, r_rfrm, r_rfrm1, r_range, r_rangeK, r_rangeE, r_draw, r_dnil, r_dop, r_dopg, r_dplq, r_dplh, r_dq, r_dq0, r_dcl1, r_dcl0, r_dct1, r_dct0, r_dgd, r_dgq1, r_dgq0, r_dctG, r_op1, r_eff, r_eff0, r_call, r_call0, r_inl, r_g, r_gq, r_gc, r_effg, r_effg0, r_callg, r_callg0, r_fin, r_pre, r_imp, r_all, r_ex, r_fing, r_preg, r_exg, r_inBlock, r_inLoop, r_frame, r_frame1, r_skip, r_region, r_seq, r_cond, r_cond1, r_block, r_exit, r_exit1, r_exit2, r_ret, r_loop, s_args0, s_args1, s_xt, s_xc, padL, blankL, callee, callArgs, eff, ctOf, getL, setL, S.put, S.upd, unopts, unopt, unoptsO, unoptsB, lazyO, guardOf, gbool, eMov, eNot, eNeg, eConv, eExt, eLenArr, eLen, eLenStr, eEqb, eEqv, allEq, eNil, negIf, eBool2, eCmp, eAri, ari, eBit, eDiv, eSh, eMinMax, foldMin, foldMax, kEq, pure1, cmpB, VO.quiet, resVals, resVal, tupled, popRet, popTo, cond, Option.bind, Option.map, eNew, eBox, asCells, lenH, snocH, eFieldAddr, eField, eLoad, cellsAt, getH, setH, dropL, takeL, mkAgg, lenL, lenS, shift, shiftL, shiftH, viewN, viewL, view, andT, junks, List.append_nil, Nat.beq, eIdxAddr, eIdxArr, eIndex, eStore, storeAt, spliceL, ones, one, eSlice, eSliceArr, bounds, subLo, addLo, eMake, eAppend, readS, repL, buildCells, chunk, purgeL, purgeLL, purgeH, purge, refs, refsL, List.cons_append, List.nil_append, wrOps, wrAl, wrDops, wrC, junkAt, putAll, putHs, headOf, headK, keepG, List.append_eq, headX, chkP, apartP, apartB, blk, strip, runAl, yld, putPs, lenN, findR, notRound, jumpK, jumpPT, jcode, List.map_cons, List.map_nil, ite_self, reduceIte]
          simp only [leS_mk, leL_cons, leL_nil, le_junk, le_int, le_bool, le_nil, leLL_nil, leLL_cons, leH_cons, leH_nil, leH1_box, leH1_own, leH1_gone, le_vs, le_agg, le_tup, le_ptr, le_own, le_xp, le_fn, le_opt, le_val, le_elem, le_nil_own, le_nil_vs, leH_ghost, leL_chunk, leXL_id, bnd_int, bnd_bool, bnd_val, bnd_nil, bnd_junk, bnd_vs, bnd_xp, bnd_agg, bnd_tup, bnd_ptr, bnd_own, bnd_elem, bnd_fn, bnd_iface, bnd_opt, bndL_nil, bndL_cons, lenH_cons, lenH_nil, imp_self, implies_true, true_and, and_true] <;> simp
        · rintro ⟨a, c, s⟩ ⟨hac, hcH, hlo, hhi⟩
          dsimp only [N1_ct15, failsC, demC, enc2, Int.toNat_natCast, r_end, r_end1, r_nil, r_op, r_opg, r_runOp, r_op0, r_yld0, r_yld1, r_y, r_rbeg, r_rend, r_rend1, r_rfrm, r_rfrm1, r_range, r_rangeK, r_rangeE, r_draw, r_dnil, r_dop, r_dopg, r_dplq, r_dplh, r_dq, r_dq0, r_dcl1, r_dcl0, r_dct1, r_dct0, r_dgd, r_dgq1, r_dgq0, r_dctG, r_op1, r_eff, r_eff0, r_call, r_call0, r_inl, r_g, r_gq, r_gc, r_effg, r_effg0, r_callg, r_callg0, r_fin, r_pre, r_imp, r_all, r_ex, r_fing, r_preg, r_exg, r_inBlock, r_inLoop, r_frame, r_frame1, r_skip, r_region, r_seq, r_cond, r_cond1, r_block, r_exit, r_exit1, r_exit2, r_ret, r_loop, s_args0, s_args1, s_xt, s_xc, padL, blankL, callee, callArgs, eff, ctOf, getL, setL, S.put, S.upd, unopts, unopt, unoptsO, unoptsB, lazyO, guardOf, gbool, eMov, eNot, eNeg, eConv, eExt, eLenArr, eLen, eLenStr, eEqb, eEqv, allEq, eNil, negIf, eBool2, eCmp, eAri, ari, eBit, eDiv, eSh, eMinMax, foldMin, foldMax, kEq, pure1, cmpB, VO.quiet, resVals, resVal, tupled, popRet, popTo, cond, Option.bind, Option.map, eNew, eBox, asCells, lenH, snocH, eFieldAddr, eField, eLoad, cellsAt, getH, setH, dropL, takeL, mkAgg, lenL, lenS, shift, shiftL, shiftH, viewN, viewL, view, andT, junks, List.append_nil, Nat.beq, eIdxAddr, eIdxArr, eIndex, eStore, storeAt, spliceL, ones, one, eSlice, eSliceArr, bounds, subLo, addLo, eMake, eAppend, readS, repL, buildCells, chunk, purgeL, purgeLL, purgeH, purge, refs, refsL, List.cons_append, List.nil_append, wrOps, wrAl, wrDops, wrC, junkAt, putAll, putHs, headOf, headK, keepG, List.append_eq, headX, chkP, apartP, apartB, blk, strip, runAl, yld, putPs, lenN, findR, notRound, jumpK, jumpPT, jcode, List.map_cons, List.map_nil, ite_self, reduceIte]
          simp only [true_and, and_true, imp_self, implies_true, decide_eq_true_eq, decide_eq_false_iff_not, Nat.reduceAdd, Nat.reduceLeDiff, Bool.not_not, reduceCtorEq, false_imp_iff, Bool.not_eq_true', Bool.not_eq_false', Bool.false_eq_true, and_self, forall_const, ne_eq, not_false_eq_true, Nat.reduceEqDiff]
          simp only at hac hcH hlo hhi
          have e1 : IntKind.i64.wrap ((c : Int) - ((a : Int) - 1)) = ((c - a + 1 : Nat) : Int) := by rw [w6_raw (by omega) (by omega)]; omega
          have e2 : IntKind.i64.wrap (((c - a + 1 : Nat) : Int).tdiv 2) = (((c - a + 1) / 2 : Nat) : Int) := by
            rw [Int.tdiv_eq_ediv_of_nonneg (by omega), w6_raw (by omega) (by omega)]; omega
          have e3 : IntKind.i64.wrap ((a : Int) - 1 + (((c - a + 1) / 2 : Nat) : Int)) = (a : Int) - 1 + (((c - a + 1) / 2 : Nat) : Int) := w6_raw (by omega) (by omega)
          simp only [e1, e2, e3]
          refine ⟨fun hlt => ?_, fun hge => ?_⟩
          · obtain ⟨m, hm, hm1, hm2⟩ : ∃ m : Nat, (a : Int) - 1 + (((c - a + 1) / 2 : Nat) : Int) = (m : Int) ∧ a ≤ m ∧ m < c := ⟨a + (c - a + 1) / 2 - 1, by omega, by omega, by omega⟩
            simp only [hm]
            refine ⟨by decide, l, ⟨lsP_self, hmax⟩, by decide, by decide, by decide, fun hy => ?_, fun hn => ?_⟩
            · refine ⟨(a, m, m), ⟨hm1, by simp only; omega, hlo, (hok m (by omega)).1 hy⟩, by simp only; omega, ?_⟩
              simp only [leS_mk, leL_cons, leL_nil, le_junk, le_int, le_bool, le_nil, leLL_nil, leLL_cons, leH_cons, leH_nil, leH1_box, leH1_own, leH1_gone, le_vs, le_agg, le_tup, le_ptr, le_own, le_xp, le_fn, le_opt, le_val, le_elem, le_nil_own, le_nil_vs, leH_ghost, leL_chunk, leXL_id, bnd_int, bnd_bool, bnd_val, bnd_nil, bnd_junk, bnd_vs, bnd_xp, bnd_agg, bnd_tup, bnd_ptr, bnd_own, bnd_elem, bnd_fn, bnd_iface, bnd_opt, bndL_nil, bndL_cons, lenH_cons, lenH_nil, imp_self, implies_true, true_and, and_true] <;> simp
            · have hno : okAt ⟨st, lo, H, il, ih⟩ l m = false := by
                rw [Bool.eq_false_iff]; intro ht; have := (hok m (by omega)).2 ht; omega
              refine ⟨(m + 1, c, m), ⟨by simp only; omega, hcH, fun j hj => ?_, hhi⟩, by simp only; omega, ?_⟩
              · simp only at hj
                cases hj2 : okAt ⟨st, lo, H, il, ih⟩ l j with
                | false => rfl
                | true => rw [hmono j m (by omega) (by omega) hj2] at hno; cases hno
              · simp only [leS_mk, leL_cons, leL_nil, le_junk, le_int, le_bool, le_nil, leLL_nil, leLL_cons, leH_cons, leH_nil, leH1_box, leH1_own, leH1_gone, le_vs, le_agg, le_tup, le_ptr, le_own, le_xp, le_fn, le_opt, le_val, le_elem, le_nil_own, le_nil_vs, leH_ghost, leL_chunk, leXL_id, bnd_int, bnd_bool, bnd_val, bnd_nil, bnd_junk, bnd_vs, bnd_xp, bnd_agg, bnd_tup, bnd_ptr, bnd_own, bnd_elem, bnd_fn, bnd_iface, bnd_opt, bndL_nil, bndL_cons, lenH_cons, lenH_nil, imp_self, implies_true, true_and, and_true]
                simp
          · have hca : c = a := by omega
            subst hca
            have hea : needN ⟨st, lo, H, il, ih⟩ l = c := leastF_eq (f := okAt ⟨st, lo, H, il, ih⟩ l) hlo (by show c ≤ (H : Int).toNat + 1; omega) (fun _ => hhi)
            rw [needF, if_neg (by rw [he]; simp), hea, if_neg (by simp only; omega)] at h
            exact ans_le (show k _ [] from h) (by simp [expo, view, viewL, le, leL]) (by simp [freshS, freshL])
  · exact h.1.elim
end Go.Proofs.Ytliipeebknljdaa
