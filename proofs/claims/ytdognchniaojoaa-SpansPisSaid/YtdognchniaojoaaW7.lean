/- Spans: the law of pi, walked. -/
import Derived.Test.YtdognchniaojoaaW1
import Derived.Test.YtdognchniaojoaaSP7
set_option linter.all false
namespace Go.Proofs.Ytdognchniaojoaa
open Go Go.Vx
set_option maxRecDepth 100000
set_option maxHeartbeats 4000000

def v4 : VF := { ntmps := 52, res := [.tmp 2], body :=
 (.seq (.region [⟨(some 1), none, .box, [.tm 0]⟩,
  ⟨(some 2), none, .mov, [.cn (.bool false)]⟩])
 (.seq (.region [⟨(some 12), none, (.load true 2), [.tm 1]⟩,
  ⟨(some 13), none, (.call 17), [.tm 12]⟩,
  ⟨(some 11), none, .mov, [.tm 13]⟩,
  ⟨(some 14), none, (.ext 0), [.tm 11]⟩,
  ⟨(some 15), none, (.ext 1), [.tm 11]⟩,
  ⟨(some 3), none, (.alloc [(.int .i64 0), (.int .i64 0)]), []⟩,
  ⟨none, none, (.store 2), [.tm 3, .tm 14]⟩,
  ⟨(some 4), none, .mov, [.tm 15]⟩])
 (.seq (.region [⟨(some 17), none, (.load true 2), [.tm 1]⟩,
  ⟨(some 18), none, (.call 18), [.tm 17]⟩,
  ⟨(some 16), none, .mov, [.tm 18]⟩,
  ⟨(some 19), none, (.ext 0), [.tm 16]⟩,
  ⟨(some 20), none, (.ext 1), [.tm 16]⟩,
  ⟨(some 5), none, (.alloc [(.int .i64 0), (.int .i64 0)]), []⟩,
  ⟨none, none, (.store 2), [.tm 5, .tm 19]⟩,
  ⟨(some 6), none, .mov, [.tm 20]⟩])
 (.seq (.region [⟨(some 22), none, (.load true 2), [.tm 1]⟩,
  ⟨(some 23), none, (.call 19), [.tm 22]⟩,
  ⟨(some 21), none, .mov, [.tm 23]⟩,
  ⟨(some 24), none, (.ext 0), [.tm 21]⟩,
  ⟨(some 25), none, (.ext 1), [.tm 21]⟩,
  ⟨(some 7), none, (.alloc [(.int .i64 0), (.int .i64 0)]), []⟩,
  ⟨none, none, (.store 2), [.tm 7, .tm 24]⟩,
  ⟨(some 8), none, .mov, [.tm 25]⟩])
 (.seq (.region [⟨(some 27), none, (.load true 2), [.tm 1]⟩,
  ⟨(some 28), none, (.call 20), [.tm 27]⟩,
  ⟨(some 26), none, .mov, [.tm 28]⟩,
  ⟨(some 29), none, (.ext 0), [.tm 26]⟩,
  ⟨(some 30), none, (.ext 1), [.tm 26]⟩,
  ⟨(some 9), none, (.alloc [(.int .i64 0), (.int .i64 0)]), []⟩,
  ⟨none, none, (.store 2), [.tm 9, .tm 29]⟩,
  ⟨(some 10), none, .mov, [.tm 30]⟩])
 (.seq (.region [⟨(some 31), none, (.load true 2), [.tm 3]⟩,
  ⟨(some 32), none, (.load true 2), [.tm 5]⟩,
  ⟨(some 33), none, (.eqv false [true, true]), [.tm 31, .tm 32]⟩,
  ⟨(some 34), none, .mov, [.tm 33]⟩,
  ⟨(some 35), (some (34, true)), .mov, [.tm 4]⟩,
  ⟨(some 36), (some (34, true)), .mov, [.tm 6]⟩,
  ⟨(some 37), (some (34, true)), (.cmp .eql), [.tm 35, .tm 36]⟩,
  ⟨(some 38), none, .and, [.tm 34, .tm 37]⟩,
  ⟨(some 39), none, .mov, [.tm 38]⟩,
  ⟨(some 40), (some (39, true)), (.load true 2), [.tm 7]⟩,
  ⟨(some 41), (some (39, true)), (.load true 2), [.tm 9]⟩,
  ⟨(some 42), (some (39, true)), (.eqv false [true, true]), [.tm 40, .tm 41]⟩,
  ⟨(some 43), none, .and, [.tm 39, .tm 42]⟩,
  ⟨(some 44), none, .mov, [.tm 43]⟩,
  ⟨(some 45), (some (44, true)), .mov, [.tm 8]⟩,
  ⟨(some 46), (some (44, true)), .mov, [.tm 10]⟩,
  ⟨(some 47), (some (44, true)), (.cmp .eql), [.tm 45, .tm 46]⟩,
  ⟨(some 48), none, .and, [.tm 44, .tm 47]⟩,
  ⟨(some 49), none, .mov, [.tm 48]⟩,
  ⟨(some 50), (some (49, true)), (.call 16), []⟩,
  ⟨(some 51), none, .and, [.tm 49, .tm 50]⟩,
  ⟨(some 2), none, .mov, [.tm 51]⟩])
 .ret)))))) }
theorem v4_is : vfunc Try.prog Try.f4 = some v4 := by kernel_rfl


def A7 : Env := { ct := fun n => match n with | 16 => some trueC | 17 => some piC | 18 => some piC | 19 => some discC | 20 => some discC | _ => none, fn := fun _ => none, meth := fun _ _ => none }
theorem A7_ct16 : A7.ct 16 = some trueC := rfl
theorem A7_ct17 : A7.ct 17 = some piC := rfl
theorem A7_ct18 : A7.ct 18 = some piC := rfl
theorem A7_ct19 : A7.ct 19 = some discC := rfl
theorem A7_ct20 : A7.ct 20 = some discC := rfl
theorem A7_ok : EnvOk Try.prog A7 := by
  refine ⟨fun f c h => ?_, fun f vf h => ?_, fun _ _ => rfl, by kernel_rfl⟩
  · simp only [A7] at h
    split at h
    · cases h; exact ⟨awake_ok, Try.f16, Try.func16, by kernel_rfl, by kernel_rfl⟩
    · cases h; exact ⟨pi_ok, Try.f17, Try.func17, by kernel_rfl, by kernel_rfl⟩
    · cases h; exact ⟨rpi_ok, Try.f18, Try.func18, by kernel_rfl, by kernel_rfl⟩
    · cases h; exact ⟨disc_ok, Try.f19, Try.func19, by kernel_rfl, by kernel_rfl⟩
    · cases h; exact ⟨rdisc_ok, Try.f20, Try.func20, by kernel_rfl, by kernel_rfl⟩
    · cases h
  · cases h


def shI : List Sh := [.int .i64, .int .i64]
theorem ivl_of {c : List SV} (h : okSL shI c) : ∃ a : Iv, c = enc2 a := by
  obtain ⟨_, _, rfl, ⟨n1, rfl, _⟩, e1⟩ := okSL_cons_inv h
  obtain ⟨_, _, rfl, ⟨n2, rfl, _⟩, e2⟩ := okSL_cons_inv e1
  cases okSL_nil_inv e2
  exact ⟨(n1, n2), rfl⟩

def law1 : List PSh := [⟨true, shI⟩]

theorem lawPis : (lawC law1).ok Try.prog 4 := by
  refine contract Try.func4 v4_is A7_ok 400 (lawC law1) fun args k h => ?_
  obtain ⟨ha, hk⟩ := h
  obtain ⟨_, _, rfl, h1, e1⟩ := okPL_cons_inv ha
  obtain ⟨cs, rfl, hcs⟩ := okP_agg_inv h1
  cases okPL_nil_inv e1
  obtain ⟨⟨x, y⟩, rfl⟩ := ivl_of hcs
  refine ⟨[.agg (enc2 (x, y))], ⟨leXL_le _ _ (leXL_self _) (by simp only [enc2, bndL_cons, bndL_nil, bnd_vs, bnd_int, and_self]), trivial⟩, ?_⟩
  dsimp only [v4, A7_ct16, A7_ct17, A7_ct19, A7_ct18, A7_ct20, trueC, piC, discC, ivoC, enc2, r_end, r_end1, r_nil, r_op, r_opg, r_runOp, r_op0, r_yld0, r_yld1, r_y, r_rbeg, r_rend, r_rend1, r_rfrm, r_rfrm1, r_range, r_rangeK, r_rangeE, r_draw, r_dnil, r_dop, r_dopg, r_dplq, r_dplh, r_dq, r_dq0, r_dcl1, r_dcl0, r_dct1, r_dct0, r_dgd, r_dgq1, r_dgq0, r_dctG, r_op1, r_eff, r_eff0, r_call, r_call0, r_inl, r_g, r_gq, r_gc, r_effg, r_effg0, r_callg, r_callg0, r_fin, r_pre, r_imp, r_all, r_ex, r_fing, r_preg, r_exg, r_inBlock, r_inLoop, r_frame, r_frame1, r_skip, r_stuck, r_region, r_seq, r_cond, r_cond1, r_block, r_exit, r_exit1, r_exit2, r_ret, r_loop, s_args0, s_args1, s_xt, s_xc, padL, blankL, callee, callArgs, eff, ctOf, getL, setL, S.put, S.upd, unopts, unopt, unoptsO, unoptsB, lazyO, guardOf, gbool, eMov, eNot, eNeg, eConv, eExt, eLenArr, eLen, eLenStr, eEqb, eEqv, allEq, eNil, negIf, eBool2, eCmp, eAri, ari, eBit, eDiv, eSh, eMinMax, foldMin, foldMax, kEq, pure1, cmpB, VO.quiet, resVals, resVal, tupled, popRet, popTo, cond, Option.bind, Option.map, eNew, eBox, asCells, lenH, snocH, eFieldAddr, eField, eLoad, cellsAt, getH, setH, dropL, takeL, mkAgg, lenL, lenS, shift, shiftL, shiftH, viewN, viewL, view, andT, junks, List.append_nil, Nat.beq, eIdxAddr, eIdxArr, idxN_0, idxN_1, idxN_2, idxN_3, eIndex, eStore, storeAt, spliceL, ones, one, eSlice, eSliceArr, bounds, subLo_z, addLo_z, subLo_one, addLo_one, eMake, eAppend, readS, repL, buildCells, chunk, purgeL, purgeLL, purgeH, purge, refs, refsL, List.cons_append, List.nil_append, wrOps, wrAl, wrDops, wrC, junkAt, putAll, putHs, headOf, headK, keepG, List.append_eq, headX, chkP, apartP, apartB, blk, strip, runAl, AL.ho, yld, putPs, lenN, findR, notRound, jumpK, jumpPT, jcode, List.map_cons, List.map_nil, ite_self, reduceIte]
  simp only [true_and, and_true, imp_self, implies_true, decide_eq_true_eq, decide_eq_false_iff_not, Nat.reduceAdd, Nat.reduceLeDiff, Bool.not_not, reduceCtorEq, false_imp_iff, Bool.not_eq_true', Bool.not_eq_false', Bool.false_eq_true, and_self, forall_const, ne_eq, not_false_eq_true, Nat.reduceEqDiff]
  have hk' : k (.bool true) [] := hk
  exact ⟨by decide, by decide, by decide, by decide, by decide, by decide, by decide, by decide, ans_bool (by simpa using hk')⟩
end Go.Proofs.Ytdognchniaojoaa
