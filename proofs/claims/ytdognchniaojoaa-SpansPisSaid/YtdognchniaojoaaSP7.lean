/- Intervals, walked: the reference's Disc, Pow. -/
import Derived.Test.YtdognchniaojoaaSP6
import Derived.Test.YtdognchniaojoaaR7
set_option linter.all false
namespace Go.Proofs.Ytdognchniaojoaa
open Go Go.Vx
set_option maxRecDepth 100000
set_option maxHeartbeats 4000000

def v20 : VF := { ntmps := 55, res := [.cell 2 true 2, .tmp 3], body :=
 (.seq (.region [⟨(some 1), none, .box, [.tm 0]⟩,
  ⟨(some 2), none, (.alloc [(.int .i64 0), (.int .i64 0)]), []⟩,
  ⟨(some 3), none, .mov, [.cn (.int .i64 0)]⟩])
 (.seq (.region [⟨(some 9), none, (.load true 2), [.tm 1]⟩,
  ⟨(some 10), none, (.call 33), [.tm 9]⟩,
  ⟨(some 4), none, .mov, [.tm 10]⟩])
 (.seq (.seq (.region [⟨(some 11), none, .mov, [.tm 4]⟩,
  ⟨(some 12), none, (.cmp .eql), [.tm 11, .cn (.int .i64 0)]⟩,
  ⟨(some 13), none, .mov, [.tm 12]⟩,
  ⟨(some 14), (some (13, true)), (.fieldAddr 0), [.tm 1]⟩,
  ⟨(some 15), (some (13, true)), (.load false 1), [.tm 14]⟩,
  ⟨(some 16), (some (13, true)), (.cmp .lss), [.tm 15, .cn (.int .i64 0)]⟩,
  ⟨(some 17), none, .and, [.tm 13, .tm 16]⟩])
 (.cond (.tm 17) (.region [⟨(some 4), none, .mov, [.cn (.int .i64 9)]⟩])
  .skip))
 (.seq (.seq (.region [⟨(some 18), none, .mov, [.tm 4]⟩,
  ⟨(some 19), none, (.cmp .neq), [.tm 18, .cn (.int .i64 0)]⟩])
 (.cond (.tm 19) (.seq (.region [⟨(some 20), none, (.build [(.int .i64 0), (.int .i64 0)] []), []⟩,
  ⟨(some 21), none, .mov, [.tm 4]⟩,
  ⟨none, none, (.store 2), [.tm 2, .tm 20]⟩,
  ⟨(some 3), none, .mov, [.tm 21]⟩])
 .ret)
  .skip))
 (.seq (.region [⟨(some 23), none, (.fieldAddr 0), [.tm 1]⟩,
  ⟨(some 24), none, (.load false 1), [.tm 23]⟩,
  ⟨(some 25), none, (.call 48), [.tm 24]⟩,
  ⟨(some 26), none, (.call 52), [.tm 25, .cn (.int .i64 2)]⟩,
  ⟨(some 22), none, .mov, [.tm 26]⟩,
  ⟨(some 27), none, (.ext 0), [.tm 22]⟩,
  ⟨(some 28), none, (.ext 1), [.tm 22]⟩,
  ⟨(some 5), none, (.alloc [(.bool false), .nil, .nil]), []⟩,
  ⟨none, none, (.store 3), [.tm 5, .tm 27]⟩,
  ⟨(some 6), none, .mov, [.tm 28]⟩])
 (.seq (.region [⟨(some 30), none, (.fieldAddr 1), [.tm 1]⟩,
  ⟨(some 31), none, (.load false 1), [.tm 30]⟩,
  ⟨(some 32), none, (.call 48), [.tm 31]⟩,
  ⟨(some 33), none, (.call 52), [.tm 32, .cn (.int .i64 2)]⟩,
  ⟨(some 29), none, .mov, [.tm 33]⟩,
  ⟨(some 34), none, (.ext 0), [.tm 29]⟩,
  ⟨(some 35), none, (.ext 1), [.tm 29]⟩,
  ⟨(some 7), none, (.alloc [(.bool false), .nil, .nil]), []⟩,
  ⟨none, none, (.store 3), [.tm 7, .tm 34]⟩,
  ⟨(some 8), none, .mov, [.tm 35]⟩])
 (.seq (.draw [] [⟨⟨(some 37), none, (.load true 3), [.tm 5]⟩, []⟩,
  ⟨⟨(some 38), none, (.call 46), [.cn (.int .i64 1), .cn (.int .i64 4)]⟩, []⟩,
  ⟨⟨(some 39), none, (.call 47), [.tm 37, .tm 38]⟩, []⟩,
  ⟨⟨(some 36), none, .mov, [.tm 39]⟩, []⟩,
  ⟨⟨(some 40), none, (.ext 0), [.tm 36]⟩, []⟩,
  ⟨⟨(some 41), none, (.ext 1), [.tm 36]⟩, []⟩,
  ⟨⟨none, none, (.store 3), [.tm 5, .tm 40]⟩, []⟩])
 (.seq (.draw [] [⟨⟨(some 43), none, (.load true 3), [.tm 7]⟩, []⟩,
  ⟨⟨(some 44), none, (.call 46), [.cn (.int .i64 1), .cn (.int .i64 4)]⟩, []⟩,
  ⟨⟨(some 45), none, (.call 47), [.tm 43, .tm 44]⟩, []⟩,
  ⟨⟨(some 42), none, .mov, [.tm 45]⟩, []⟩,
  ⟨⟨(some 46), none, (.ext 0), [.tm 42]⟩, []⟩,
  ⟨⟨(some 47), none, (.ext 1), [.tm 42]⟩, []⟩,
  ⟨⟨none, none, (.store 3), [.tm 7, .tm 46]⟩, []⟩])
 (.seq (.region [⟨(some 48), none, (.load true 3), [.tm 5]⟩,
  ⟨(some 49), none, (.load true 3), [.tm 7]⟩,
  ⟨(some 50), none, (.buildSlice 3 2 [(.bool false), .nil, .nil] [(0, 3), (3, 3)]), [.tm 48, .tm 49]⟩,
  ⟨(some 51), none, (.call 59), [.tm 50]⟩,
  ⟨(some 52), none, (.call 49), [.tm 51]⟩,
  ⟨(some 53), none, (.ext 0), [.tm 52]⟩,
  ⟨(some 54), none, (.ext 1), [.tm 52]⟩,
  ⟨none, none, (.store 2), [.tm 2, .tm 53]⟩,
  ⟨(some 3), none, .mov, [.tm 54]⟩])
 .ret))))))))) }
theorem v20_is : vfunc Try.prog Try.f20 = some v20 := by kernel_rfl
def v13 : VF := { ntmps := 67, res := [.cell 4 true 2, .tmp 5], body :=
 (.seq (.region [⟨(some 2), none, .box, [.tm 0]⟩,
  ⟨(some 4), none, (.alloc [(.int .i64 0), (.int .i64 0)]), []⟩,
  ⟨(some 5), none, .mov, [.cn (.int .i64 0)]⟩])
 (.seq (.region [⟨(some 12), none, (.load true 2), [.tm 2]⟩,
  ⟨(some 13), none, (.call 33), [.tm 12]⟩,
  ⟨(some 6), none, .mov, [.tm 13]⟩])
 (.seq (.seq (.region [⟨(some 14), none, .mov, [.tm 6]⟩,
  ⟨(some 15), none, (.cmp .eql), [.tm 14, .cn (.int .i64 0)]⟩,
  ⟨(some 16), none, .mov, [.tm 15]⟩,
  ⟨(some 17), (some (16, true)), .mov, [.tm 1]⟩,
  ⟨(some 18), (some (16, true)), (.cmp .lss), [.tm 17, .cn (.int .i64 0)]⟩,
  ⟨(some 19), (some (16, true)), .mov, [.tm 18]⟩,
  ⟨(some 20), (some (19, false)), .mov, [.tm 1]⟩,
  ⟨(some 21), (some (19, false)), (.cmp .gtr), [.tm 20, .cn (.int .i64 62)]⟩,
  ⟨(some 22), (some (16, true)), .or, [.tm 19, .tm 21]⟩,
  ⟨(some 23), none, .and, [.tm 16, .tm 22]⟩])
 (.cond (.tm 23) (.region [⟨(some 6), none, .mov, [.cn (.int .i64 2)]⟩])
  .skip))
 (.seq (.seq (.region [⟨(some 24), none, .mov, [.tm 6]⟩,
  ⟨(some 25), none, (.cmp .neq), [.tm 24, .cn (.int .i64 0)]⟩])
 (.cond (.tm 25) (.seq (.region [⟨(some 26), none, (.build [(.int .i64 0), (.int .i64 0)] []), []⟩,
  ⟨(some 27), none, .mov, [.tm 6]⟩,
  ⟨none, none, (.store 2), [.tm 4, .tm 26]⟩,
  ⟨(some 5), none, .mov, [.tm 27]⟩])
 .ret)
  .skip))
 (.seq (.region [⟨(some 29), none, (.fieldAddr 0), [.tm 2]⟩,
  ⟨(some 30), none, (.load false 1), [.tm 29]⟩,
  ⟨(some 31), none, (.call 48), [.tm 30]⟩,
  ⟨(some 32), none, .mov, [.tm 1]⟩,
  ⟨(some 33), none, (.call 52), [.tm 31, .tm 32]⟩,
  ⟨(some 28), none, .mov, [.tm 33]⟩,
  ⟨(some 34), none, (.ext 0), [.tm 28]⟩,
  ⟨(some 35), none, (.ext 1), [.tm 28]⟩,
  ⟨(some 7), none, (.alloc [(.bool false), .nil, .nil]), []⟩,
  ⟨none, none, (.store 3), [.tm 7, .tm 34]⟩,
  ⟨(some 8), none, .mov, [.tm 35]⟩])
 (.seq (.region [⟨(some 37), none, (.fieldAddr 1), [.tm 2]⟩,
  ⟨(some 38), none, (.load false 1), [.tm 37]⟩,
  ⟨(some 39), none, (.call 48), [.tm 38]⟩,
  ⟨(some 40), none, .mov, [.tm 1]⟩,
  ⟨(some 41), none, (.call 52), [.tm 39, .tm 40]⟩,
  ⟨(some 36), none, .mov, [.tm 41]⟩,
  ⟨(some 42), none, (.ext 0), [.tm 36]⟩,
  ⟨(some 43), none, (.ext 1), [.tm 36]⟩,
  ⟨(some 9), none, (.alloc [(.bool false), .nil, .nil]), []⟩,
  ⟨none, none, (.store 3), [.tm 9, .tm 42]⟩,
  ⟨(some 10), none, .mov, [.tm 43]⟩])
 (.seq (.region [⟨(some 44), none, (.load true 3), [.tm 7]⟩,
  ⟨(some 45), none, (.load true 3), [.tm 9]⟩,
  ⟨(some 46), none, (.buildSlice 3 2 [(.bool false), .nil, .nil] [(0, 3), (3, 3)]), [.tm 44, .tm 45]⟩,
  ⟨(some 11), none, .mov, [.tm 46]⟩])
 (.seq (.seq (.region [⟨(some 47), none, .mov, [.tm 1]⟩,
  ⟨(some 48), none, (.cmp .gtr), [.tm 47, .cn (.int .i64 0)]⟩,
  ⟨(some 49), none, .mov, [.tm 48]⟩,
  ⟨(some 50), (some (49, true)), (.fieldAddr 0), [.tm 2]⟩,
  ⟨(some 51), (some (49, true)), (.load false 1), [.tm 50]⟩,
  ⟨(some 52), (some (49, true)), (.cmp .leq), [.tm 51, .cn (.int .i64 0)]⟩,
  ⟨(some 53), none, .and, [.tm 49, .tm 52]⟩,
  ⟨(some 54), none, .mov, [.tm 53]⟩,
  ⟨(some 55), (some (54, true)), (.fieldAddr 1), [.tm 2]⟩,
  ⟨(some 56), (some (54, true)), (.load false 1), [.tm 55]⟩,
  ⟨(some 57), (some (54, true)), (.cmp .geq), [.tm 56, .cn (.int .i64 0)]⟩,
  ⟨(some 58), none, .and, [.tm 54, .tm 57]⟩])
 (.cond (.tm 58) (.region [⟨(some 59), none, .mov, [.tm 11]⟩,
  ⟨(some 60), none, (.call 48), [.cn (.int .i64 0)]⟩,
  ⟨(some 61), none, (.buildSlice 3 1 [(.bool false), .nil, .nil] [(0, 3)]), [.tm 60]⟩,
  ⟨(some 62), none, (.append 3 56 [(.bool false), .nil, .nil]), [.tm 59, .tm 61]⟩,
  ⟨(some 11), none, .mov, [.tm 62]⟩])
  .skip))
 (.seq (.region [⟨(some 63), none, .mov, [.tm 11]⟩,
  ⟨(some 64), none, (.call 49), [.tm 63]⟩,
  ⟨(some 65), none, (.ext 0), [.tm 64]⟩,
  ⟨(some 66), none, (.ext 1), [.tm 64]⟩,
  ⟨none, none, (.store 2), [.tm 4, .tm 65]⟩,
  ⟨(some 5), none, .mov, [.tm 66]⟩])
 .ret))))))))) }
theorem v13_is : vfunc Try.prog Try.f13 = some v13 := by kernel_rfl


def S6 : Env := { ct := fun n => match n with | 33 => some iv1C | 48 => some quoiC | 46 => some ofrC | 47 => some qmulC | 52 => some qpowC | 59 => some pisC | 49 => some spanqC | _ => none, fn := fun _ => none, meth := fun _ _ => none }
theorem S6_ct33 : S6.ct 33 = some iv1C := rfl
theorem S6_ct48 : S6.ct 48 = some quoiC := rfl
theorem S6_ct46 : S6.ct 46 = some ofrC := rfl
theorem S6_ct47 : S6.ct 47 = some qmulC := rfl
theorem S6_ct52 : S6.ct 52 = some qpowC := rfl
theorem S6_ct59 : S6.ct 59 = some pisC := rfl
theorem S6_ct49 : S6.ct 49 = some spanqC := rfl
theorem S6_ok : EnvOk Try.prog S6 := by
  refine ⟨fun f c h => ?_, fun f vf h => ?_, fun _ _ => rfl, by kernel_rfl⟩
  · simp only [S6] at h
    split at h
    · cases h; exact ⟨rcheck_ok, Try.f33, Try.func33, by kernel_rfl, by kernel_rfl⟩
    · cases h; exact ⟨quoi_ok, Try.f48, Try.func48, by kernel_rfl, by kernel_rfl⟩
    · cases h; exact ⟨ofr_ok, Try.f46, Try.func46, by kernel_rfl, by kernel_rfl⟩
    · cases h; exact ⟨qmul_ok, Try.f47, Try.func47, by kernel_rfl, by kernel_rfl⟩
    · cases h; exact ⟨qpow_ok, Try.f52, Try.func52, by kernel_rfl, by kernel_rfl⟩
    · cases h; exact ⟨pis_ok, Try.f59, Try.func59, by kernel_rfl, by kernel_rfl⟩
    · cases h; exact ⟨spanq_ok, Try.f49, Try.func49, by kernel_rfl, by kernel_rfl⟩
    · cases h
  · cases h


theorem sq_fit {x : Int} (hx : -4611686018427387904 ≤ x ∧ x ≤ 4611686018427387904) : nl (rnum x 1 ^ 2) ≤ 512 ∧ nl (rden x 1 ^ 2) ≤ 512 ∧ x ^ 2 = x * x ∧ (x ^ 2).natAbs < 4294967296 ^ 5 := by
  have q : x ^ 2 = x * x := by rw [Int.pow_succ, Int.pow_succ, Int.pow_zero, Int.one_mul]
  have m := mul_bnd (M := 4611686018427387904) (N := 4611686018427387904) hx hx
  have h1 : x.natAbs ^ 2 < 4294967296 ^ 5 := by
    have := Nat.pow_le_pow_left (show x.natAbs ≤ 4611686018427387904 by omega) 2
    omega
  refine ⟨?_, ?_, q, by rw [q]; omega⟩
  · rw [rnum_1]; exact Nat.le_trans (nl_le (n := 5).2 h1) (by decide)
  · rw [rden_1]; exact Nat.le_trans (nl_le (n := 1).2 (by decide)) (by decide)

theorem rdisc_ok : discC.ok Try.prog 20 := by
  refine contract Try.func20 v20_is S6_ok 400 discC fun args k h => ⟨args, ?_⟩
  simp only [discC, ivoC] at h
  split at h
  · rename_i x y
    refine ⟨by simp [leL, le], ?_⟩
    dsimp only [v20, S6_ct33, S6_ct48, S6_ct46, S6_ct47, S6_ct52, S6_ct59, S6_ct49, iv1C, quoiC, ofrC, qmulC, qpowC, pisC, frsR, spanqC, enc2, encF, natV, r_end, r_end1, r_nil, r_op, r_opg, r_runOp, r_op0, r_yld0, r_yld1, r_y, r_rbeg, r_rend, r_rend1, r_rfrm, r_rfrm1, r_range, r_rangeK, r_rangeE, r_draw, r_dnil, r_dop, r_dopg, r_dplq, r_dplh, r_dq, r_dq0, r_dcl1, r_dcl0, r_dct1, r_dct0, r_dgd, r_dgq1, r_dgq0, r_dctG, r_op1, r_eff, r_eff0, r_call, r_call0, r_inl, r_g, r_gq, r_gc, r_effg, r_effg0, r_callg, r_callg0, r_fin, r_pre, r_imp, r_all, r_ex, r_fing, r_preg, r_exg, r_inBlock, r_inLoop, r_frame, r_frame1, r_skip, r_stuck, r_region, r_seq, r_cond, r_cond1, r_block, r_exit, r_exit1, r_exit2, r_ret, r_loop, s_args0, s_args1, s_xt, s_xc, padL, blankL, callee, callArgs, eff, ctOf, getL, setL, S.put, S.upd, unopts, unopt, unoptsO, unoptsB, lazyO, guardOf, gbool, eMov, eNot, eNeg, eConv, eExt, eLenArr, eLen, eLenStr, eEqb, eEqv, allEq, eNil, negIf, eBool2, eCmp, eAri, ari, eBit, eDiv, eSh, eMinMax, foldMin, foldMax, kEq, pure1, cmpB, VO.quiet, resVals, resVal, tupled, popRet, popTo, cond, Option.bind, Option.map, eNew, eBox, asCells, lenH, snocH, eFieldAddr, eField, eLoad, cellsAt, getH, setH, dropL, takeL, mkAgg, lenL, lenS, shift, shiftL, shiftH, viewN, viewL, view, andT, junks, List.append_nil, Nat.beq, eIdxAddr, eIdxArr, idxN_0, idxN_1, idxN_2, idxN_3, eIndex, eStore, storeAt, spliceL, ones, one, eSlice, eSliceArr, bounds, subLo_z, addLo_z, subLo_one, addLo_one, eMake, eAppend, readS, repL, buildCells, chunk, purgeL, purgeLL, purgeH, purge, refs, refsL, List.cons_append, List.nil_append, wrOps, wrAl, wrDops, wrC, junkAt, putAll, putHs, headOf, headK, keepG, List.append_eq, headX, chkP, apartP, apartB, blk, strip, runAl, AL.ho, yld, putPs, lenN, findR, notRound, jumpK, jumpPT, jcode, List.map_cons, List.map_nil, ite_self, reduceIte]
    simp only [true_and, and_true, imp_self, implies_true, decide_eq_true_eq, decide_eq_false_iff_not, Nat.reduceAdd, Nat.reduceLeDiff, Bool.not_not, reduceCtorEq, false_imp_iff, Bool.not_eq_true', Bool.not_eq_false', Bool.false_eq_true, and_self, forall_const, ne_eq, not_false_eq_true, Nat.reduceEqDiff]
    have h : k (.tup [.agg (enc2 (discF (x, y)).1), .int .i64 (discF (x, y)).2]) [] := h
    simp only [show Int.toNat 4 = 4 from rfl]
    refine ⟨fun hb => ⟨fun _ => ?_, fun h9 => absurd h9 (by decide)⟩, fun hb => ⟨fun he => ?_, fun he => ?_⟩⟩
    · simp only [Bool.and_eq_true, decide_eq_true_eq] at hb
      rw [discF, if_neg (by omega), if_pos hb.2] at h
      exact ans_iv h
    · rw [discF, if_pos he] at h
      exact ans_iv h
    · have hx0 : ¬ x < 0 := by
        intro hx0
        have : (decide (ivE [(x, y)] = 0) && decide (x < 0)) = true := by simp [he, hx0]
        rw [this] at hb; cases hb
      rw [discF, if_neg (by omega), if_neg hx0] at h
      obtain ⟨hx, hy, hxy⟩ := ivE1 he
      dsimp only at hx hy hxy
      obtain ⟨fx1, fx2, fx3, fx4⟩ := sq_fit hx
      obtain ⟨fy1, fy2, fy3, fy4⟩ := sq_fit hy
      have hf4 : frOk (1, 4) := frOk_8 (show 0 < 4 by decide) (show Int.natAbs 1 < 4294967296 ^ 8 by decide) (show 4 < 4294967296 ^ 8 by decide)
      have hqx : frOk (x ^ 2, 1 ^ 2) := frOk_8 (show 0 < 1 ^ 2 by decide) (by dsimp only; omega) (show 1 ^ 2 < 4294967296 ^ 8 by decide)
      have hqy : frOk (y ^ 2, 1 ^ 2) := frOk_8 (show 0 < 1 ^ 2 by decide) (by dsimp only; omega) (show 1 ^ 2 < 4294967296 ^ 8 by decide)
      have hX : frOk (x ^ 2 * 1, 1 ^ 2 * 4) := frOk_8 (show 0 < 1 ^ 2 * 4 by decide) (by dsimp only; omega) (show 1 ^ 2 * 4 < 4294967296 ^ 8 by decide)
      have hY : frOk (y ^ 2 * 1, 1 ^ 2 * 4) := frOk_8 (show 0 < 1 ^ 2 * 4 by decide) (by dsimp only; omega) (show 1 ^ 2 * 4 < 4294967296 ^ 8 by decide)
      have hP := pis2_ok (x := x ^ 2 * 1) (y := y ^ 2 * 1) (d := 1 ^ 2 * 4) ⟨by decide, by decide⟩ (by omega) (by omega)
      refine ⟨hx, (x, 1), 2, ⟨fracP_self (frOk_1 hx), rfl, by decide, fx1, fx2⟩, by decide, by decide, hy, (y, 1), 2, ⟨fracP_self (frOk_1 hy), rfl, by decide, fy1, fy2⟩, by decide, by decide,
        ⟨⟨by decide, by decide⟩, by decide, by decide⟩, (x ^ 2, 1 ^ 2), (1, 4), ⟨fracP_self hqx, fracP_self hf4, hX⟩, by decide, by decide,
        ⟨⟨by decide, by decide⟩, by decide, by decide⟩, (y ^ 2, 1 ^ 2), (1, 4), ⟨fracP_self hqy, fracP_self hf4, hY⟩, by decide, by decide, by decide,
        [(x ^ 2 * 1, 1 ^ 2 * 4), (y ^ 2 * 1, 1 ^ 2 * 4)], ⟨⟨rfl, rfl, fun k hk => match k, hk with | 0, _ => leXL_self (encF false (x ^ 2 * 1, 1 ^ 2 * 4)) | 1, _ => leXL_self (encF false (y ^ 2 * 1, 1 ^ 2 * 4))⟩, by simp, list2 hX hY, hP⟩,
        (x ^ 2 * 1 * 3141592653589793238, 1 ^ 2 * 4 * 1000000000000000000), [(x ^ 2 * 1 * 3141592653589793239, 1 ^ 2 * 4 * 1000000000000000000), (y ^ 2 * 1 * 3141592653589793238, 1 ^ 2 * 4 * 1000000000000000000), (y ^ 2 * 1 * 3141592653589793239, 1 ^ 2 * 4 * 1000000000000000000)],
        ⟨⟨rfl, rfl, fun k hk => leXL_self (encF false ((pisF [(x ^ 2 * 1, 1 ^ 2 * 4), (y ^ 2 * 1, 1 ^ 2 * 4)]).getD k default))⟩, by simp, hP⟩, by decide, by decide, ?_⟩
      have e := spanQ_one (d := 1 ^ 2 * 4 * 1000000000000000000) (by decide) (x ^ 2 * 1 * 3141592653589793238) [x ^ 2 * 1 * 3141592653589793239, y ^ 2 * 1 * 3141592653589793238, y ^ 2 * 1 * 3141592653589793239]
      have e2 : ((1 ^ 2 * 4 * 1000000000000000000 : Nat) : Int) = 4000000000000000000 := rfl
      rw [e2] at e
      have e3 : spanQ (x ^ 2 * 1 * 3141592653589793238, 1 ^ 2 * 4 * 1000000000000000000) [(x ^ 2 * 1 * 3141592653589793239, 1 ^ 2 * 4 * 1000000000000000000), (y ^ 2 * 1 * 3141592653589793238, 1 ^ 2 * 4 * 1000000000000000000), (y ^ 2 * 1 * 3141592653589793239, 1 ^ 2 * 4 * 1000000000000000000)] = spanI 4000000000000000000 (x ^ 2 * 1 * 3141592653589793238) [x ^ 2 * 1 * 3141592653589793239, y ^ 2 * 1 * 3141592653589793238, y ^ 2 * 1 * 3141592653589793239] := e
      rw [e3]
      have k1 : x * x ≤ x * y := Int.mul_le_mul_of_nonneg_left hxy (by omega)
      have k2 : x * y ≤ y * y := Int.mul_le_mul_of_nonneg_right hxy (by omega)
      have k3 : 0 ≤ x * x := Int.mul_nonneg (by omega) (by omega)
      have e4 : spanI 4000000000000000000 (x ^ 2 * 1 * 3141592653589793238) [x ^ 2 * 1 * 3141592653589793239, y ^ 2 * 1 * 3141592653589793238, y ^ 2 * 1 * 3141592653589793239] = spanR (discN false x) (discN true y) := by
        rw [fx3, fy3, spanI, lowI3, highI3]
        have a1 : lo4 (x * x * 1 * 3141592653589793238) (x * x * 1 * 3141592653589793239) (y * y * 1 * 3141592653589793238) (y * y * 1 * 3141592653589793239) = x * x * 3141592653589793238 := by
          generalize x * x = X at *
          generalize y * y = Y at *
          unfold lo4; omega
        have a2 : hi4 (x * x * 1 * 3141592653589793238) (x * x * 1 * 3141592653589793239) (y * y * 1 * 3141592653589793238) (y * y * 1 * 3141592653589793239) = y * y * 3141592653589793239 := by
          generalize x * x = X at *
          generalize y * y = Y at *
          unfold hi4; omega
        rw [a1, a2]; rfl
      rw [e4]
      exact ans_iv h
  · exact h.1.elim

end Go.Proofs.Ytdognchniaojoaa
