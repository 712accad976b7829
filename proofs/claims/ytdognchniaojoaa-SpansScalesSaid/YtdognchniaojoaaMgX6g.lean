/- Numbers, walked: Shift to the left, Root. (Under way.) -/
import Derived.Test.YtdognchniaojoaaMgX6f
import Derived.Test.YtdognchniaojoaaRows
set_option linter.all false
namespace Go.Proofs.Ytdognchniaojoaa
open Go Go.Vx
set_option maxRecDepth 100000
set_option maxHeartbeats 4000000

def v78 : VF := { ntmps := 74, res := [.tmp 4, .tmp 5], body :=
 (.seq (.region [⟨(some 4), none, .mov, [.cn .nil]⟩,
  ⟨(some 5), none, .mov, [.cn (.int .i64 0)]⟩])
 (.seq (.region [⟨(some 9), none, .mov, [.tm 0]⟩,
  ⟨(some 10), none, (.buildSlice 1 1 [.nil] [(0, 1)]), [.tm 9]⟩,
  ⟨(some 11), none, (.call 76), [.tm 10]⟩,
  ⟨(some 6), none, .mov, [.tm 11]⟩])
 (.seq (.seq (.region [⟨(some 12), none, .mov, [.tm 6]⟩,
  ⟨(some 13), none, (.cmp .eql), [.tm 12, .cn (.int .i64 0)]⟩,
  ⟨(some 14), none, .mov, [.tm 13]⟩,
  ⟨(some 15), (some (14, true)), .mov, [.tm 1]⟩,
  ⟨(some 16), (some (14, true)), (.cmp .lss), [.tm 15, .cn (.int .i64 (-20000))]⟩,
  ⟨(some 17), (some (14, true)), .mov, [.tm 16]⟩,
  ⟨(some 18), (some (17, false)), .mov, [.tm 1]⟩,
  ⟨(some 19), (some (17, false)), (.cmp .gtr), [.tm 18, .cn (.int .i64 20000)]⟩,
  ⟨(some 20), (some (14, true)), .or, [.tm 17, .tm 19]⟩,
  ⟨(some 21), none, .and, [.tm 14, .tm 20]⟩])
 (.cond (.tm 21) (.region [⟨(some 6), none, .mov, [.cn (.int .i64 2)]⟩])
  .skip))
 (.seq (.seq (.region [⟨(some 22), none, .mov, [.tm 6]⟩,
  ⟨(some 23), none, (.cmp .eql), [.tm 22, .cn (.int .i64 0)]⟩,
  ⟨(some 24), none, .mov, [.tm 23]⟩,
  ⟨(some 25), (some (24, true)), .mov, [.tm 0]⟩,
  ⟨(some 26), (some (24, true)), .len, [.tm 25]⟩,
  ⟨(some 27), (some (24, true)), (.cmp .gtr), [.tm 26, .cn (.int .i64 0)]⟩,
  ⟨(some 28), none, .and, [.tm 24, .tm 27]⟩,
  ⟨(some 29), none, .mov, [.tm 28]⟩,
  ⟨(some 30), (some (29, true)), .mov, [.tm 0]⟩,
  ⟨(some 31), (some (29, true)), (.call 77), [.tm 30]⟩,
  ⟨(some 32), (some (29, true)), .mov, [.tm 1]⟩,
  ⟨(some 33), (some (29, true)), (.ari .add), [.tm 31, .tm 32]⟩,
  ⟨(some 34), (some (29, true)), (.cmp .gtr), [.tm 33, .cn (.int .i64 16384)]⟩,
  ⟨(some 35), none, .and, [.tm 29, .tm 34]⟩])
 (.cond (.tm 35) (.region [⟨(some 6), none, .mov, [.cn (.int .i64 3)]⟩])
  .skip))
 (.seq (.seq (.region [⟨(some 36), none, .mov, [.tm 6]⟩,
  ⟨(some 37), none, (.cmp .neq), [.tm 36, .cn (.int .i64 0)]⟩])
 (.cond (.tm 37) (.seq (.region [⟨(some 38), none, .mov, [.tm 6]⟩,
  ⟨(some 4), none, .mov, [.cn .nil]⟩,
  ⟨(some 5), none, .mov, [.tm 38]⟩])
 .ret)
  .skip))
 (.seq (.region [⟨(some 39), none, (.make 1 4 [(.int .u32 0)]), [.cn (.int .i64 512), .cn (.int .i64 512)]⟩,
  ⟨(some 7), none, .mov, [.tm 39]⟩])
 (.seq (.seq (.region [⟨(some 8), none, .mov, [.cn (.int .i64 0)]⟩])
 (.block 0 (.loop (.seq (.seq (.region [⟨(some 40), none, .mov, [.tm 8]⟩,
  ⟨(some 41), none, .mov, [.tm 0]⟩,
  ⟨(some 42), none, (.call 77), [.tm 41]⟩,
  ⟨(some 43), none, (.cmp .lss), [.tm 40, .tm 42]⟩])
 (.cond (.tm 43) .skip
  (.exit 0)))
 (.seq (.block 1 (.seq (.region [⟨(some 46), none, .mov, [.tm 8]⟩,
  ⟨(some 47), none, .mov, [.tm 1]⟩,
  ⟨(some 48), none, (.ari .add), [.tm 46, .tm 47]⟩,
  ⟨(some 49), none, (.cmp .geq), [.tm 48, .cn (.int .i64 0)]⟩])
 (.cond (.tm 49) (.draw [] [⟨⟨(some 50), none, .mov, [.tm 7]⟩, []⟩,
  ⟨⟨(some 51), none, .mov, [.tm 8]⟩, []⟩,
  ⟨⟨(some 52), none, .mov, [.tm 1]⟩, []⟩,
  ⟨⟨(some 53), none, (.ari .add), [.tm 51, .tm 52]⟩, []⟩,
  ⟨⟨(some 54), none, .quo, [.tm 53, .cn (.int .i64 32)]⟩, []⟩,
  ⟨⟨(some 55), none, .mov, [.tm 7]⟩, []⟩,
  ⟨⟨(some 56), none, .mov, [.tm 8]⟩, []⟩,
  ⟨⟨(some 57), none, .mov, [.tm 1]⟩, []⟩,
  ⟨⟨(some 58), none, (.ari .add), [.tm 56, .tm 57]⟩, []⟩,
  ⟨⟨(some 59), none, .quo, [.tm 58, .cn (.int .i64 32)]⟩, []⟩,
  ⟨⟨(some 60), none, (.idxAddr 1), [.tm 55, .tm 59]⟩, []⟩,
  ⟨⟨(some 61), none, (.load false 1), [.tm 60]⟩, []⟩,
  ⟨⟨(some 62), none, .mov, [.tm 0]⟩, []⟩,
  ⟨⟨(some 63), none, .mov, [.tm 8]⟩, []⟩,
  ⟨⟨(some 65), none, .mov, [.tm 8]⟩, []⟩,
  ⟨⟨(some 66), none, .mov, [.tm 1]⟩, []⟩,
  ⟨⟨(some 67), none, (.ari .add), [.tm 65, .tm 66]⟩, []⟩,
  ⟨⟨(some 68), none, .rem, [.tm 67, .cn (.int .i64 32)]⟩, []⟩,
  ⟨⟨(some 64), none, (.call 90), [.tm 62, .tm 63]⟩, []⟩,
  ⟨⟨(some 69), none, .shl, [.tm 64, .tm 68]⟩, []⟩,
  ⟨⟨(some 70), none, (.bit .or), [.tm 61, .tm 69]⟩, []⟩,
  ⟨⟨(some 71), none, (.idxAddr 1), [.tm 50, .tm 54]⟩, []⟩,
  ⟨⟨none, none, (.store 1), [.tm 71, .tm 70]⟩, []⟩])
  .skip)))
 (.region [⟨(some 44), none, .mov, [.tm 8]⟩,
  ⟨(some 45), none, (.ari .add), [.tm 44, .cn (.int .i64 1)]⟩,
  ⟨(some 8), none, .mov, [.tm 45]⟩]))))))
 (.seq (.region [⟨(some 72), none, .mov, [.tm 7]⟩,
  ⟨(some 73), none, (.call 80), [.tm 72]⟩,
  ⟨(some 4), none, .mov, [.tm 73]⟩,
  ⟨(some 5), none, .mov, [.cn (.int .i64 0)]⟩])
 .ret)))))))) }
theorem v78_is : vfunc Try.prog Try.f78 = some v78 := by kernel_rfl


/-- A number times a power of two. -/
def shiftC : Ctr := { alias := false, of := fun l => match l with
  | [.vs _ z n sz get, .int .i64 k] => .ex Nat fun a => .ex Nat fun i => .pre (padP a n sz get ∧ n = nl a ∧ nl a ≤ 512 ∧ k = (i : Int) ∧ bitsN a + i ≤ 16384) (.fin (.tup [natS false (a * 2 ^ i), .int .i64 0]) [])
  | _ => noC }
def T3 : Env := { ct := fun n => match n with | 76 => some badnC | 77 => some sizeC | 90 => some bitC | 80 => some trimC | _ => none, fn := fun _ => none, meth := fun _ _ => none }
theorem T3_ct76 : T3.ct 76 = some badnC := rfl
theorem T3_ct77 : T3.ct 77 = some sizeC := rfl
theorem T3_ct90 : T3.ct 90 = some bitC := rfl
theorem T3_ct80 : T3.ct 80 = some trimC := rfl
theorem T3_ok : EnvOk Try.prog T3 := by
  refine ⟨fun f c h => ?_, fun f vf h => ?_, fun _ _ => rfl, by kernel_rfl⟩
  · simp only [T3] at h
    split at h
    · cases h; exact ⟨bad_ok, Try.f76, Try.func76, by kernel_rfl, by kernel_rfl⟩
    · cases h; exact ⟨size_ok, Try.f77, Try.func77, by kernel_rfl, by kernel_rfl⟩
    · cases h; exact ⟨bit_ok, Try.f90, Try.func90, by kernel_rfl, by kernel_rfl⟩
    · cases h; exact ⟨trim_ok, Try.f80, Try.func80, by kernel_rfl, by kernel_rfl⟩
    · cases h
  · cases h


theorem setbit' {q i : Nat} (hb : bitN q i = 0) : dig q (i / 32) / 2 ^ (i % 32) % 2 = 0 ∧ setD q (i / 32) (dig q (i / 32) + 2 ^ (i % 32)) = q + 2 ^ i ∧ dig q (i / 32) + 2 ^ (i % 32) < 4294967296 := by
  have h1 : dig q (i / 32) / 2 ^ (i % 32) % 2 = 0 := by rw [← bitN_dig]; exact hb
  refine ⟨h1, ?_, ?_⟩
  · have e := setD_add q (i / 32) (dig q (i / 32) + 2 ^ (i % 32))
    have e2 : 2 ^ i = 2 ^ (i % 32) * 4294967296 ^ (i / 32) := by
      rw [pw_two, ← Nat.pow_add]; congr 1; omega
    rw [e2]
    rw [Nat.add_mul] at e
    omega
  · rw [← or_add h1]
    exact Nat.or_lt_two_pow (n := 32) (dig_lt _ _) (Nat.pow_lt_pow_right (by decide) (Nat.mod_lt _ (by decide)))
theorem mod_bit (a j : Nat) : a % 2 ^ (j + 1) = a % 2 ^ j + bitN a j * 2 ^ j := by
  unfold bitN
  rw [Nat.pow_succ, Nat.mod_mul, Nat.mul_comm (2 ^ j) (a / 2 ^ j % 2)]
theorem shift_bit {a i j : Nat} : bitN (a % 2 ^ j * 2 ^ i) (j + i) = 0 := by
  unfold bitN
  have h := Nat.mod_lt a (p2_pos j)
  have : a % 2 ^ j * 2 ^ i < 2 ^ (j + i) := by rw [Nat.pow_add]; exact Nat.mul_lt_mul_of_pos_right h (p2_pos i)
  rw [Nat.div_eq_of_lt this]

theorem shift_pad {a i n : Nat} (hn : n ≤ 100000) (h : bitsN a + i ≤ 32 * n) : padP (a * 2 ^ i) n 1 (fun k => [.int .u32 (dig (a * 2 ^ i) k)]) := by
  refine padP_self hn ?_
  rw [pw_two]
  exact Nat.lt_of_lt_of_le (Nat.mul_lt_mul_of_pos_right (bitsN_lt a) (p2_pos i)) (by rw [← Nat.pow_add]; exact Nat.pow_le_pow_right (by decide) h)
theorem shift_ok : shiftC.ok Try.prog 78 := by
  refine contract Try.func78 v78_is T3_ok 300 shiftC fun args k h => ?_
  simp only [shiftC] at h
  split at h
  · rename_i t1 z1 n sz get k'
    obtain ⟨a, i, ⟨⟨rfl, hn, ha, hg⟩, rfl, hn5, rfl, hbits⟩, h⟩ := h
    refine ⟨[.vs t1 z1 (nl a) 1 (fun k => [.int .u32 (dig a k)]), .int .i64 i], ⟨by simpa [le] using hg, ⟨rfl, rfl⟩, trivial⟩, ?_⟩
    dsimp only [v78, T3_ct76, T3_ct77, badnC, sizeC, natS, r_end, r_end1, r_nil, r_op, r_opg, r_runOp, r_op0, r_yld0, r_yld1, r_y, r_rbeg, r_rend, r_rend1, r_rfrm, r_rfrm1, r_range, r_rangeK, r_rangeE, r_draw, r_dnil, r_dop, r_dopg, r_dplq, r_dplh, r_dq, r_dq0, r_dcl1, r_dcl0, r_dct1, r_dct0, r_dgd, r_dgq1, r_dgq0, r_dctG, r_op1, r_eff, r_eff0, r_call, r_call0, r_inl, r_g, r_gq, r_gc, r_effg, r_effg0, r_callg, r_callg0, r_fin, r_pre, r_imp, r_all, r_ex, r_fing, r_preg, r_exg, r_inBlock, r_inLoop, r_frame, r_frame1, r_skip, r_stuck, r_region, r_seq, r_cond, r_cond1, r_block, r_exit, r_exit1, r_exit2, r_ret, r_loop, s_args0, s_args1, s_xt, s_xc, padL, blankL, callee, callArgs, eff, ctOf, getL, setL, S.put, S.upd, unopts, unopt, unoptsO, unoptsB, lazyO, guardOf, gbool, eMov, eNot, eNeg, eConv, eExt, eLenArr, eLen, eLenStr, eEqb, eEqv, allEq, eNil, negIf, eBool2, eCmp, eAri, ari, eBit, eDiv, eSh, eMinMax, foldMin, foldMax, kEq, pure1, cmpB, VO.quiet, resVals, resVal, tupled, popRet, popTo, cond, Option.bind, Option.map, eNew, eBox, asCells, lenH, snocH, eFieldAddr, eField, eLoad, cellsAt, getH, setH, dropL, takeL, mkAgg, lenL, lenS, shift, shiftL, shiftH, viewN, viewL, view, andT, junks, List.append_nil, Nat.beq, eIdxAddr, eIdxArr, idxN_0, idxN_1, idxN_2, idxN_3, eIndex, eStore, storeAt, spliceL, ones, one, eSlice, eSliceArr, bounds, subLo_z, addLo_z, subLo_one, addLo_one, eMake, eAppend, readS, repL, buildCells, chunk, purgeL, purgeLL, purgeH, purge, refs, refsL, List.cons_append, List.nil_append, wrOps, wrAl, wrDops, wrC, junkAt, putAll, putHs, headOf, headK, keepG, List.append_eq, headX, chkP, apartP, apartB, blk, strip, runAl, AL.ho, yld, putPs, lenN, findR, notRound, jumpK, jumpPT, jcode, List.map_cons, List.map_nil, ite_self, reduceIte]
    simp only [true_and, and_true, imp_self, implies_true, decide_eq_true_eq, decide_eq_false_iff_not, Nat.reduceAdd, Nat.reduceLeDiff, Bool.not_not, reduceCtorEq, false_imp_iff, Bool.not_eq_true', Bool.not_eq_false', Bool.false_eq_true, and_self, forall_const, ne_eq, not_false_eq_true, Nat.reduceEqDiff]
    have h : k (.tup [natS false (a * 2 ^ i), .int .i64 0]) [] := h
    have hbw : IntKind.i64.wrap ((bitsN a : Int) + (i : Int)) = ((bitsN a + i : Nat) : Int) := by rw [IntWalk.i64_in _ (by omega)]; omega
    refine ⟨by decide, [(z1, a)], ⟨⟨rfl, rfl, fun k hk => match k, hk with | 0, _ => leXL_self _⟩, by simp, by simp; exact hn5⟩, fun hb => by simp [hb], fun hb => ?_, fun hb => ⟨a, fun _ => ⟨padP_nl (by omega), rfl⟩, ?_⟩⟩
    · exfalso; simp at hb; omega
    · simp only [hbw]
      refine ⟨fun hb2 => ?_, fun hb2 => ?_⟩
      · exfalso; simp at hb2; omega
      · refine ⟨fun h => absurd trivial h, ⟨by decide, by decide, by decide, by unfold capOk; decide⟩, ?_⟩
        refine Loop.keep [0, 0, 5, 0] Nat (fun j => [(8, .int .i64 j)]) (fun j => [(1, .own false 1 512 (fun k => [.int .u32 (dig (a % 2 ^ j * 2 ^ i) k)]))]) [] (fun j => j ≤ bitsN a) (fun j => bitsN a - j) ?_ ?_
        · refine ⟨0, Nat.zero_le _, ?_⟩
          dsimp only [r_end, r_end1, r_nil, r_op, r_opg, r_runOp, r_op0, r_yld0, r_yld1, r_y, r_rbeg, r_rend, r_rend1, r_rfrm, r_rfrm1, r_range, r_rangeK, r_rangeE, r_draw, r_dnil, r_dop, r_dopg, r_dplq, r_dplh, r_dq, r_dq0, r_dcl1, r_dcl0, r_dct1, r_dct0, r_dgd, r_dgq1, r_dgq0, r_dctG, r_op1, r_eff, r_eff0, r_call, r_call0, r_inl, r_g, r_gq, r_gc, r_effg, r_effg0, r_callg, r_callg0, r_fin, r_pre, r_imp, r_all, r_ex, r_fing, r_preg, r_exg, r_inBlock, r_inLoop, r_frame, r_frame1, r_skip, r_stuck, r_region, r_seq, r_cond, r_cond1, r_block, r_exit, r_exit1, r_exit2, r_ret, r_loop, s_args0, s_args1, s_xt, s_xc, padL, blankL, callee, callArgs, eff, ctOf, getL, setL, S.put, S.upd, unopts, unopt, unoptsO, unoptsB, lazyO, guardOf, gbool, eMov, eNot, eNeg, eConv, eExt, eLenArr, eLen, eLenStr, eEqb, eEqv, allEq, eNil, negIf, eBool2, eCmp, eAri, ari, eBit, eDiv, eSh, eMinMax, foldMin, foldMax, kEq, pure1, cmpB, VO.quiet, resVals, resVal, tupled, popRet, popTo, cond, Option.bind, Option.map, eNew, eBox, asCells, lenH, snocH, eFieldAddr, eField, eLoad, cellsAt, getH, setH, dropL, takeL, mkAgg, lenL, lenS, shift, shiftL, shiftH, viewN, viewL, view, andT, junks, List.append_nil, Nat.beq, eIdxAddr, eIdxArr, idxN_0, idxN_1, idxN_2, idxN_3, eIndex, eStore, storeAt, spliceL, ones, one, eSlice, eSliceArr, bounds, subLo_z, addLo_z, subLo_one, addLo_one, eMake, eAppend, readS, repL, buildCells, chunk, purgeL, purgeLL, purgeH, purge, refs, refsL, List.cons_append, List.nil_append, wrOps, wrAl, wrDops, wrC, junkAt, putAll, putHs, headOf, headK, keepG, List.append_eq, headX, chkP, apartP, apartB, blk, strip, runAl, AL.ho, yld, putPs, lenN, findR, notRound, jumpK, jumpPT, jcode, List.map_cons, List.map_nil, ite_self, reduceIte]
          simp only [leS_mk, leL_cons, leL_nil, le_junk, le_int, le_bool, le_nil, leLL_nil, leLL_cons, leH_cons, leH_nil, leH1_box, leH1_own, leH1_gone, le_vs, le_agg, le_tup, le_ptr, le_own, le_xp, le_fn, le_opt, le_val, le_elem, le_nil_own, le_nil_vs, leH_ghost, leL_chunk, leXL_id, bnd_int, bnd_bool, bnd_val, bnd_nil, bnd_junk, bnd_vs, bnd_xp, bnd_agg, bnd_tup, bnd_ptr, bnd_own, bnd_elem, bnd_fn, bnd_iface, bnd_opt, bndL_nil, bndL_cons, lenH_cons, lenH_nil, imp_self, implies_true, true_and, and_true]
          simp [Nat.mod_one, dig_zero, leL, le]
        · rintro j hj
          dsimp only [T3_ct77, T3_ct90, T3_ct80, sizeC, bitC, trimC, natS, bitI, Int.toNat_natCast, r_end, r_end1, r_nil, r_op, r_opg, r_runOp, r_op0, r_yld0, r_yld1, r_y, r_rbeg, r_rend, r_rend1, r_rfrm, r_rfrm1, r_range, r_rangeK, r_rangeE, r_draw, r_dnil, r_dop, r_dopg, r_dplq, r_dplh, r_dq, r_dq0, r_dcl1, r_dcl0, r_dct1, r_dct0, r_dgd, r_dgq1, r_dgq0, r_dctG, r_op1, r_eff, r_eff0, r_call, r_call0, r_inl, r_g, r_gq, r_gc, r_effg, r_effg0, r_callg, r_callg0, r_fin, r_pre, r_imp, r_all, r_ex, r_fing, r_preg, r_exg, r_inBlock, r_inLoop, r_frame, r_frame1, r_skip, r_stuck, r_region, r_seq, r_cond, r_cond1, r_block, r_exit, r_exit1, r_exit2, r_ret, r_loop, s_args0, s_args1, s_xt, s_xc, padL, blankL, callee, callArgs, eff, ctOf, getL, setL, S.put, S.upd, unopts, unopt, unoptsO, unoptsB, lazyO, guardOf, gbool, eMov, eNot, eNeg, eConv, eExt, eLenArr, eLen, eLenStr, eEqb, eEqv, allEq, eNil, negIf, eBool2, eCmp, eAri, ari, eBit, eDiv, eSh, eMinMax, foldMin, foldMax, kEq, pure1, cmpB, VO.quiet, resVals, resVal, tupled, popRet, popTo, cond, Option.bind, Option.map, eNew, eBox, asCells, lenH, snocH, eFieldAddr, eField, eLoad, cellsAt, getH, setH, dropL, takeL, mkAgg, lenL, lenS, shift, shiftL, shiftH, viewN, viewL, view, andT, junks, List.append_nil, Nat.beq, eIdxAddr, eIdxArr, idxN_0, idxN_1, idxN_2, idxN_3, eIndex, eStore, storeAt, spliceL, ones, one, eSlice, eSliceArr, bounds, subLo_z, addLo_z, subLo_one, addLo_one, eMake, eAppend, readS, repL, buildCells, chunk, purgeL, purgeLL, purgeH, purge, refs, refsL, List.cons_append, List.nil_append, wrOps, wrAl, wrDops, wrC, junkAt, putAll, putHs, headOf, headK, keepG, List.append_eq, headX, chkP, apartP, apartB, blk, strip, runAl, AL.ho, yld, putPs, lenN, findR, notRound, jumpK, jumpPT, jcode, List.map_cons, List.map_nil, ite_self, reduceIte]
          simp only [true_and, and_true, imp_self, implies_true, decide_eq_true_eq, decide_eq_false_iff_not, Nat.reduceAdd, Nat.reduceLeDiff, Bool.not_not, reduceCtorEq, false_imp_iff, Bool.not_eq_true', Bool.not_eq_false', Bool.false_eq_true, and_self, forall_const, ne_eq, not_false_eq_true, Nat.reduceEqDiff]
          have e0 : IntKind.i64.wrap ((j : Int) + (i : Int)) = ((j + i : Nat) : Int) := by rw [IntWalk.i64_in _ (by omega)]; omega
          have e1 : IntKind.i64.wrap (((j + i : Nat) : Int).tdiv 32) = (((j + i) / 32 : Nat) : Int) := by
            have : ((j + i : Nat) : Int).tdiv 32 = (((j + i) / 32 : Nat) : Int) := IntWalk.up_tdiv (y := 32) rfl rfl
            rw [this, IntWalk.i64_in _ (by omega)]
          have e2 : ((j + i : Nat) : Int).tmod 32 = (((j + i) % 32 : Nat) : Int) := IntWalk.up_tmod (y := 32) rfl rfl
          simp only [e0, e1, e2, Int.toNat_natCast, show Int.toNat 512 = 512 from rfl]
          have hbl := bitsN_nl a
          refine ⟨a, ⟨padP_nl (by omega), rfl⟩, fun hlt => ?_, fun hge => ?_⟩
          · refine ⟨fun _ => ⟨by decide, by decide, ⟨by omega, by omega⟩, by omega, by decide, a, ⟨padP_nl (by omega), by omega, by omega⟩, by omega, ⟨by omega, by omega⟩, by omega, j + 1, by omega, by omega, ?_⟩, fun hneg => by exfalso; omega⟩
            have hm32 : (j + i) % 32 < 32 := Nat.mod_lt _ (by decide)
            have e4 : min ((j + i) % 32) IntKind.u32.bits = (j + i) % 32 := by show min ((j + i) % 32) 32 = _; omega
            rw [e4, IntWalk.i64_in ((j : Int) + 1) (by omega), mod_bit a j]
            have hq0 := shift_bit (a := a) (i := i) (j := j)
            obtain ⟨s1, s2, s3⟩ := setbit' hq0
            have hb2 := bitN_lt a j
            have hcell : ∀ K, (if K = (j + i) / 32 then [SV.int IntKind.u32 (IntKind.u32.wrap ↑(BitVec.ofInt IntKind.u32.bits ↑(dig (a % 2 ^ j * 2 ^ i) ((j + i) / 32)) ||| BitVec.ofInt IntKind.u32.bits (IntKind.u32.wrap (↑(bitN a j) * 2 ^ ((j + i) % 32)))).toNat)] else [SV.int IntKind.u32 ↑(dig (a % 2 ^ j * 2 ^ i) K)]) = [SV.int IntKind.u32 ↑(dig ((a % 2 ^ j + bitN a j * 2 ^ j) * 2 ^ i) K)] := by
              intro K
              rcases Nat.lt_or_ge (bitN a j) 1 with h0 | h0
              · have h0 : bitN a j = 0 := by omega
                rw [h0, show ((0 : Nat) : Int) * 2 ^ ((j + i) % 32) = ((0 : Nat) : Int) by simp, u3_nat (x := 0) (by decide), show IntKind.u32.bits = 32 from rfl, or_nat (dig_lt _ _) (by decide)]
                simp
                intro hh; rw [hh]
              · have h0 : bitN a j = 1 := by omega
                have e5 : ((1 : Nat) : Int) * 2 ^ ((j + i) % 32) = ((2 ^ ((j + i) % 32) : Nat) : Int) := by simp
                rw [h0, e5, u3_nat (x := 2 ^ ((j + i) % 32)) (Nat.pow_lt_pow_right (by decide) hm32), show IntKind.u32.bits = 32 from rfl, or_nat (dig_lt _ _) (Nat.pow_lt_pow_right (by decide) hm32), or_add s1]
                have e6 : (a % 2 ^ j + 1 * 2 ^ j) * 2 ^ i = a % 2 ^ j * 2 ^ i + 2 ^ (j + i) := by rw [Nat.one_mul, Nat.add_mul, Nat.pow_add]
                rw [e6, ← s2, dig_setD s3]
                split <;> rfl
            simp only [hcell, leS_mk, leL_cons, leL_nil, le_junk, le_int, le_bool, le_nil, leLL_nil, leLL_cons, leH_cons, leH_nil, leH1_box, leH1_own, leH1_gone, le_vs, le_agg, le_tup, le_ptr, le_own, le_xp, le_fn, le_opt, le_val, le_elem, le_nil_own, le_nil_vs, leH_ghost, leL_chunk, leXL_id, bnd_int, bnd_bool, bnd_val, bnd_nil, bnd_junk, bnd_vs, bnd_xp, bnd_agg, bnd_tup, bnd_ptr, bnd_own, bnd_elem, bnd_fn, bnd_iface, bnd_opt, bndL_nil, bndL_cons, lenH_cons, lenH_nil, imp_self, implies_true, true_and, and_true]
            omega
          · obtain rfl : j = bitsN a := by omega
            rw [Nat.mod_eq_of_lt (bitsN_lt a)]
            exact ⟨a * 2 ^ i, shift_pad (by decide) hbits, ans_ni h⟩
  · exact h.1.elim
end Go.Proofs.Ytdognchniaojoaa

/- Numbers, walked: Root. -/
set_option linter.all false
namespace Go.Proofs.Ytdognchniaojoaa
open Go Go.Vx
set_option maxRecDepth 100000
set_option maxHeartbeats 4000000

def v54 : VF := { ntmps := 62, res := [.tmp 4, .tmp 5], body :=
 (.seq (.region [⟨(some 4), none, .mov, [.cn .nil]⟩,
  ⟨(some 5), none, .mov, [.cn (.int .i64 0)]⟩])
 (.seq (.region [⟨(some 14), none, .mov, [.tm 0]⟩,
  ⟨(some 15), none, (.buildSlice 1 1 [.nil] [(0, 1)]), [.tm 14]⟩,
  ⟨(some 16), none, (.call 76), [.tm 15]⟩,
  ⟨(some 6), none, .mov, [.tm 16]⟩])
 (.seq (.seq (.region [⟨(some 17), none, .mov, [.tm 6]⟩,
  ⟨(some 18), none, (.cmp .eql), [.tm 17, .cn (.int .i64 0)]⟩,
  ⟨(some 19), none, .mov, [.tm 18]⟩,
  ⟨(some 20), (some (19, true)), .mov, [.tm 1]⟩,
  ⟨(some 21), (some (19, true)), (.cmp .lss), [.tm 20, .cn (.int .i64 1)]⟩,
  ⟨(some 22), (some (19, true)), .mov, [.tm 21]⟩,
  ⟨(some 23), (some (22, false)), .mov, [.tm 1]⟩,
  ⟨(some 24), (some (22, false)), (.cmp .gtr), [.tm 23, .cn (.int .i64 64)]⟩,
  ⟨(some 25), (some (19, true)), .or, [.tm 22, .tm 24]⟩,
  ⟨(some 26), none, .and, [.tm 19, .tm 25]⟩])
 (.cond (.tm 26) (.region [⟨(some 6), none, .mov, [.cn (.int .i64 2)]⟩])
  .skip))
 (.seq (.seq (.region [⟨(some 27), none, .mov, [.tm 6]⟩,
  ⟨(some 28), none, (.cmp .neq), [.tm 27, .cn (.int .i64 0)]⟩])
 (.cond (.tm 28) (.seq (.region [⟨(some 29), none, .mov, [.tm 6]⟩,
  ⟨(some 4), none, .mov, [.cn .nil]⟩,
  ⟨(some 5), none, .mov, [.tm 29]⟩])
 .ret)
  .skip))
 (.seq (.region [⟨(some 7), none, .mov, [.cn .nil]⟩])
 (.seq (.seq (.region [⟨(some 30), none, .mov, [.tm 0]⟩,
  ⟨(some 31), none, (.call 77), [.tm 30]⟩,
  ⟨(some 32), none, .mov, [.tm 1]⟩,
  ⟨(some 33), none, .quo, [.tm 31, .tm 32]⟩,
  ⟨(some 8), none, .mov, [.tm 33]⟩])
 (.block 0 (.loop (.seq (.seq (.region [⟨(some 34), none, .mov, [.tm 8]⟩,
  ⟨(some 35), none, (.cmp .geq), [.tm 34, .cn (.int .i64 0)]⟩])
 (.cond (.tm 35) .skip
  (.exit 0)))
 (.seq (.block 1 (.seq (.region [⟨(some 39), none, (.call 55), [.cn (.int .u64 1)]⟩,
  ⟨(some 40), none, .mov, [.tm 8]⟩,
  ⟨(some 41), none, (.call 78), [.tm 39, .tm 40]⟩,
  ⟨(some 38), none, .mov, [.tm 41]⟩,
  ⟨(some 42), none, (.ext 0), [.tm 38]⟩,
  ⟨(some 43), none, (.ext 1), [.tm 38]⟩,
  ⟨(some 9), none, .mov, [.tm 42]⟩,
  ⟨(some 10), none, .mov, [.tm 43]⟩])
 (.seq (.region [⟨(some 44), none, .mov, [.tm 7]⟩,
  ⟨(some 45), none, .mov, [.tm 9]⟩,
  ⟨(some 46), none, (.call 79), [.tm 44, .tm 45]⟩,
  ⟨(some 11), none, .mov, [.tm 46]⟩])
 (.seq (.region [⟨(some 48), none, .mov, [.tm 11]⟩,
  ⟨(some 49), none, .mov, [.tm 1]⟩,
  ⟨(some 50), none, (.call 75), [.tm 48, .tm 49]⟩,
  ⟨(some 47), none, .mov, [.tm 50]⟩,
  ⟨(some 51), none, (.ext 0), [.tm 47]⟩,
  ⟨(some 52), none, (.ext 1), [.tm 47]⟩,
  ⟨(some 12), none, .mov, [.tm 51]⟩,
  ⟨(some 13), none, .mov, [.tm 52]⟩])
 (.seq (.region [⟨(some 53), none, .mov, [.tm 13]⟩,
  ⟨(some 54), none, .mov, [.tm 53]⟩,
  ⟨(some 55), (some (54, true)), .mov, [.tm 12]⟩,
  ⟨(some 56), (some (54, true)), .mov, [.tm 0]⟩,
  ⟨(some 57), (some (54, true)), (.call 58), [.tm 55, .tm 56]⟩,
  ⟨(some 58), (some (54, true)), (.cmp .leq), [.tm 57, .cn (.int .i64 0)]⟩,
  ⟨(some 59), none, .and, [.tm 54, .tm 58]⟩])
 (.cond (.tm 59) (.region [⟨(some 60), none, .mov, [.tm 11]⟩,
  ⟨(some 7), none, .mov, [.tm 60]⟩])
  .skip))))))
 (.region [⟨(some 36), none, .mov, [.tm 8]⟩,
  ⟨(some 37), none, (.ari .sub), [.tm 36, .cn (.int .i64 1)]⟩,
  ⟨(some 8), none, .mov, [.tm 37]⟩]))))))
 (.seq (.region [⟨(some 61), none, .mov, [.tm 7]⟩,
  ⟨(some 4), none, .mov, [.tm 61]⟩,
  ⟨(some 5), none, .mov, [.cn (.int .i64 0)]⟩])
 .ret))))))) }
theorem v54_is : vfunc Try.prog Try.f54 = some v54 := by kernel_rfl


def nrootC : Ctr := { alias := false, of := fun l => match l with
  | [.vs _ z n sz get, .int .i64 k] => .ex Nat fun a => .ex Nat fun e => .pre (padP a n sz get ∧ n = nl a ∧ k = (e : Int) ∧ 1 ≤ e ∧ e ≤ 62 ∧ a < 2 ^ 63) (.all Nat fun r => .imp (r ^ e ≤ a ∧ a < (r + 1) ^ e) (.all Bool fun z => .fin (.tup [natS z r, .int .i64 0]) []))
  | _ => noC }
def T4 : Env := { ct := fun n => match n with | 76 => some badnC | 77 => some sizeC | 55 => some ofC | 78 => some shiftC | 79 => some plusC | 75 => some powerC | 58 => some orderC | _ => none, fn := fun _ => none, meth := fun _ _ => none }
theorem T4_ct76 : T4.ct 76 = some badnC := rfl
theorem T4_ct77 : T4.ct 77 = some sizeC := rfl
theorem T4_ct55 : T4.ct 55 = some ofC := rfl
theorem T4_ct78 : T4.ct 78 = some shiftC := rfl
theorem T4_ct79 : T4.ct 79 = some plusC := rfl
theorem T4_ct75 : T4.ct 75 = some powerC := rfl
theorem T4_ct58 : T4.ct 58 = some orderC := rfl
theorem T4_ok : EnvOk Try.prog T4 := by
  refine ⟨fun f c h => ?_, fun f vf h => ?_, fun _ _ => rfl, by kernel_rfl⟩
  · simp only [T4] at h
    split at h
    · cases h; exact ⟨bad_ok, Try.f76, Try.func76, by kernel_rfl, by kernel_rfl⟩
    · cases h; exact ⟨size_ok, Try.f77, Try.func77, by kernel_rfl, by kernel_rfl⟩
    · cases h; exact ⟨of_ok, Try.f55, Try.func55, by kernel_rfl, by kernel_rfl⟩
    · cases h; exact ⟨shift_ok, Try.f78, Try.func78, by kernel_rfl, by kernel_rfl⟩
    · cases h; exact ⟨plus_ok, Try.f79, Try.func79, by kernel_rfl, by kernel_rfl⟩
    · cases h; exact ⟨power_ok, Try.f75, Try.func75, by kernel_rfl, by kernel_rfl⟩
    · cases h; exact ⟨order_ok, Try.f58, Try.func58, by kernel_rfl, by kernel_rfl⟩
    · cases h
  · cases h


theorem root_fits {r e : Nat} (hr : r < 2 ^ 64) (he : e ≤ 62) : nl (r ^ e) ≤ 512 := by
  have h1 : r ^ e ≤ (4294967296 ^ 2) ^ e := Nat.pow_le_pow_left (Nat.le_trans (Nat.le_of_lt hr) (by decide)) e
  rw [← Nat.pow_mul] at h1
  have h2 : 4294967296 ^ (2 * e) < 4294967296 ^ (2 * e + 1) := Nat.pow_lt_pow_right (by decide) (by omega)
  exact Nat.le_trans (nl_le (n := 2 * e + 1).2 (Nat.lt_of_le_of_lt h1 h2)) (by omega)
theorem root_top {a e : Nat} (he : 1 ≤ e) : a < (0 + 2 ^ (bitsN a / e + 1)) ^ e := by
  rw [Nat.zero_add, ← Nat.pow_mul]
  refine Nat.lt_of_lt_of_le (bitsN_lt a) (Nat.pow_le_pow_right (by decide) ?_)
  have h := Nat.div_add_mod (bitsN a) e
  have h2 := Nat.mod_lt (bitsN a) (show 0 < e by omega)
  rw [Nat.mul_comm] at h
  rw [Nat.add_mul]; omega
theorem root_le {r e a : Nat} (he : 1 ≤ e) (h : r ^ e ≤ a) : r ≤ a := by
  rcases Nat.eq_zero_or_pos r with h0 | h0
  · omega
  · exact Nat.le_trans (by conv => lhs; rw [← Nat.pow_one r]
                           exact Nat.pow_le_pow_right h0 he) h
theorem nroot_ok : nrootC.ok Try.prog 54 := by
  refine contract Try.func54 v54_is T4_ok 300 nrootC fun args k h => ?_
  simp only [nrootC] at h
  split at h
  · rename_i t1 z1 n sz get k'
    obtain ⟨a, e, ⟨⟨rfl, hn, ha, hg⟩, rfl, rfl, he1, he2, ha63⟩, h⟩ := h
    have hn5 : nl a ≤ 2 := nl_le.2 (Nat.lt_trans ha63 (by decide))
    refine ⟨[.vs t1 z1 (nl a) 1 (fun k => [.int .u32 (dig a k)]), .int .i64 e], ⟨by simpa [le] using hg, ⟨rfl, rfl⟩, trivial⟩, ?_⟩
    dsimp only [v54, T4_ct76, T4_ct77, badnC, sizeC, natS, r_end, r_end1, r_nil, r_op, r_opg, r_runOp, r_op0, r_yld0, r_yld1, r_y, r_rbeg, r_rend, r_rend1, r_rfrm, r_rfrm1, r_range, r_rangeK, r_rangeE, r_draw, r_dnil, r_dop, r_dopg, r_dplq, r_dplh, r_dq, r_dq0, r_dcl1, r_dcl0, r_dct1, r_dct0, r_dgd, r_dgq1, r_dgq0, r_dctG, r_op1, r_eff, r_eff0, r_call, r_call0, r_inl, r_g, r_gq, r_gc, r_effg, r_effg0, r_callg, r_callg0, r_fin, r_pre, r_imp, r_all, r_ex, r_fing, r_preg, r_exg, r_inBlock, r_inLoop, r_frame, r_frame1, r_skip, r_stuck, r_region, r_seq, r_cond, r_cond1, r_block, r_exit, r_exit1, r_exit2, r_ret, r_loop, s_args0, s_args1, s_xt, s_xc, padL, blankL, callee, callArgs, eff, ctOf, getL, setL, S.put, S.upd, unopts, unopt, unoptsO, unoptsB, lazyO, guardOf, gbool, eMov, eNot, eNeg, eConv, eExt, eLenArr, eLen, eLenStr, eEqb, eEqv, allEq, eNil, negIf, eBool2, eCmp, eAri, ari, eBit, eDiv, eSh, eMinMax, foldMin, foldMax, kEq, pure1, cmpB, VO.quiet, resVals, resVal, tupled, popRet, popTo, cond, Option.bind, Option.map, eNew, eBox, asCells, lenH, snocH, eFieldAddr, eField, eLoad, cellsAt, getH, setH, dropL, takeL, mkAgg, lenL, lenS, shift, shiftL, shiftH, viewN, viewL, view, andT, junks, List.append_nil, Nat.beq, eIdxAddr, eIdxArr, idxN_0, idxN_1, idxN_2, idxN_3, eIndex, eStore, storeAt, spliceL, ones, one, eSlice, eSliceArr, bounds, subLo_z, addLo_z, subLo_one, addLo_one, eMake, eAppend, readS, repL, buildCells, chunk, purgeL, purgeLL, purgeH, purge, refs, refsL, List.cons_append, List.nil_append, wrOps, wrAl, wrDops, wrC, junkAt, putAll, putHs, headOf, headK, keepG, List.append_eq, headX, chkP, apartP, apartB, blk, strip, runAl, AL.ho, yld, putPs, lenN, findR, notRound, jumpK, jumpPT, jcode, List.map_cons, List.map_nil, ite_self, reduceIte]
    simp only [true_and, and_true, imp_self, implies_true, decide_eq_true_eq, decide_eq_false_iff_not, Nat.reduceAdd, Nat.reduceLeDiff, Bool.not_not, reduceCtorEq, false_imp_iff, Bool.not_eq_true', Bool.not_eq_false', Bool.false_eq_true, and_self, forall_const, ne_eq, not_false_eq_true, Nat.reduceEqDiff]
    have hbs : bitsN a ≤ 63 := bitsN_le.2 ha63
    refine ⟨by decide, [(z1, a)], ⟨⟨rfl, rfl, fun k hk => match k, hk with | 0, _ => leXL_self _⟩, by simp, by simp; omega⟩, fun hb => by simp [hb], fun hb => ?_, fun hb => ⟨fun hb => absurd trivial hb, a, ⟨padP_nl (by omega), rfl⟩, by omega, ?_⟩⟩
    · exfalso; simp at hb; omega
    · have hdv : IntKind.i64.wrap ((bitsN a : Int).tdiv (e : Int)) = ((bitsN a / e : Nat) : Int) := by
        have h1 : (bitsN a : Int).tdiv (e : Int) = ((bitsN a / e : Nat) : Int) := by rw [Int.tdiv_eq_ediv_of_nonneg (by omega)]; simp
        have h2 : bitsN a / e ≤ bitsN a := Nat.div_le_self _ _
        rw [h1]
        generalize bitsN a / e = G at *
        rw [IntWalk.i64_in _ (by omega)]
      rw [hdv]
      have hde : bitsN a / e ≤ bitsN a := Nat.div_le_self _ _
      have htop := root_top (a := a) he1
      clear hdv
      generalize bitsN a / e = G at *
      refine Loop.keep [0, 0, 5, 0] (Nat × Nat × Bool) (fun x => [(7, .vs true x.2.2 (nl x.2.1) 1 (fun k => [.int .u32 (dig x.2.1 k)])), (8, .int .i64 ((x.1 : Int) - 1))]) (fun _ => []) [] (fun x => x.1 ≤ G + 1 ∧ x.2.1 ^ e ≤ a ∧ a < (x.2.1 + 2 ^ x.1) ^ e) (fun x => x.1) ?_ ?_
      · refine ⟨(G + 1, 0, true), ⟨Nat.le_refl _, ?_, htop⟩, ?_⟩
        · rw [Nat.zero_pow (by omega)]; omega
        · dsimp only [r_end, r_end1, r_nil, r_op, r_opg, r_runOp, r_op0, r_yld0, r_yld1, r_y, r_rbeg, r_rend, r_rend1, r_rfrm, r_rfrm1, r_range, r_rangeK, r_rangeE, r_draw, r_dnil, r_dop, r_dopg, r_dplq, r_dplh, r_dq, r_dq0, r_dcl1, r_dcl0, r_dct1, r_dct0, r_dgd, r_dgq1, r_dgq0, r_dctG, r_op1, r_eff, r_eff0, r_call, r_call0, r_inl, r_g, r_gq, r_gc, r_effg, r_effg0, r_callg, r_callg0, r_fin, r_pre, r_imp, r_all, r_ex, r_fing, r_preg, r_exg, r_inBlock, r_inLoop, r_frame, r_frame1, r_skip, r_stuck, r_region, r_seq, r_cond, r_cond1, r_block, r_exit, r_exit1, r_exit2, r_ret, r_loop, s_args0, s_args1, s_xt, s_xc, padL, blankL, callee, callArgs, eff, ctOf, getL, setL, S.put, S.upd, unopts, unopt, unoptsO, unoptsB, lazyO, guardOf, gbool, eMov, eNot, eNeg, eConv, eExt, eLenArr, eLen, eLenStr, eEqb, eEqv, allEq, eNil, negIf, eBool2, eCmp, eAri, ari, eBit, eDiv, eSh, eMinMax, foldMin, foldMax, kEq, pure1, cmpB, VO.quiet, resVals, resVal, tupled, popRet, popTo, cond, Option.bind, Option.map, eNew, eBox, asCells, lenH, snocH, eFieldAddr, eField, eLoad, cellsAt, getH, setH, dropL, takeL, mkAgg, lenL, lenS, shift, shiftL, shiftH, viewN, viewL, view, andT, junks, List.append_nil, Nat.beq, eIdxAddr, eIdxArr, idxN_0, idxN_1, idxN_2, idxN_3, eIndex, eStore, storeAt, spliceL, ones, one, eSlice, eSliceArr, bounds, subLo_z, addLo_z, subLo_one, addLo_one, eMake, eAppend, readS, repL, buildCells, chunk, purgeL, purgeLL, purgeH, purge, refs, refsL, List.cons_append, List.nil_append, wrOps, wrAl, wrDops, wrC, junkAt, putAll, putHs, headOf, headK, keepG, List.append_eq, headX, chkP, apartP, apartB, blk, strip, runAl, AL.ho, yld, putPs, lenN, findR, notRound, jumpK, jumpPT, jcode, List.map_cons, List.map_nil, ite_self, reduceIte]
          simp only [leS_mk, leL_cons, leL_nil, le_junk, le_int, le_bool, le_nil, leLL_nil, leLL_cons, leH_cons, leH_nil, leH1_box, leH1_own, leH1_gone, le_vs, le_agg, le_tup, le_ptr, le_own, le_xp, le_fn, le_opt, le_val, le_elem, le_nil_own, le_nil_vs, leH_ghost, leL_chunk, leXL_id, bnd_int, bnd_bool, bnd_val, bnd_nil, bnd_junk, bnd_vs, bnd_xp, bnd_agg, bnd_tup, bnd_ptr, bnd_own, bnd_elem, bnd_fn, bnd_iface, bnd_opt, bndL_nil, bndL_cons, lenH_cons, lenH_nil, imp_self, implies_true, true_and, and_true]
          simp [leL, le, nl_0]
      · rintro ⟨j, r, z⟩ ⟨hj, hr1, hr2⟩
        dsimp only at hj hr1 hr2
        dsimp only [T4_ct55, T4_ct78, T4_ct79, T4_ct75, T4_ct58, ofC, shiftC, plusC, powerC, orderC, natS, r_end, r_end1, r_nil, r_op, r_opg, r_runOp, r_op0, r_yld0, r_yld1, r_y, r_rbeg, r_rend, r_rend1, r_rfrm, r_rfrm1, r_range, r_rangeK, r_rangeE, r_draw, r_dnil, r_dop, r_dopg, r_dplq, r_dplh, r_dq, r_dq0, r_dcl1, r_dcl0, r_dct1, r_dct0, r_dgd, r_dgq1, r_dgq0, r_dctG, r_op1, r_eff, r_eff0, r_call, r_call0, r_inl, r_g, r_gq, r_gc, r_effg, r_effg0, r_callg, r_callg0, r_fin, r_pre, r_imp, r_all, r_ex, r_fing, r_preg, r_exg, r_inBlock, r_inLoop, r_frame, r_frame1, r_skip, r_stuck, r_region, r_seq, r_cond, r_cond1, r_block, r_exit, r_exit1, r_exit2, r_ret, r_loop, s_args0, s_args1, s_xt, s_xc, padL, blankL, callee, callArgs, eff, ctOf, getL, setL, S.put, S.upd, unopts, unopt, unoptsO, unoptsB, lazyO, guardOf, gbool, eMov, eNot, eNeg, eConv, eExt, eLenArr, eLen, eLenStr, eEqb, eEqv, allEq, eNil, negIf, eBool2, eCmp, eAri, ari, eBit, eDiv, eSh, eMinMax, foldMin, foldMax, kEq, pure1, cmpB, VO.quiet, resVals, resVal, tupled, popRet, popTo, cond, Option.bind, Option.map, eNew, eBox, asCells, lenH, snocH, eFieldAddr, eField, eLoad, cellsAt, getH, setH, dropL, takeL, mkAgg, lenL, lenS, shift, shiftL, shiftH, viewN, viewL, view, andT, junks, List.append_nil, Nat.beq, eIdxAddr, eIdxArr, idxN_0, idxN_1, idxN_2, idxN_3, eIndex, eStore, storeAt, spliceL, ones, one, eSlice, eSliceArr, bounds, subLo_z, addLo_z, subLo_one, addLo_one, eMake, eAppend, readS, repL, buildCells, chunk, purgeL, purgeLL, purgeH, purge, refs, refsL, List.cons_append, List.nil_append, wrOps, wrAl, wrDops, wrC, junkAt, putAll, putHs, headOf, headK, keepG, List.append_eq, headX, chkP, apartP, apartB, blk, strip, runAl, AL.ho, yld, putPs, lenN, findR, notRound, jumpK, jumpPT, jcode, List.map_cons, List.map_nil, ite_self, reduceIte]
        simp only [true_and, and_true, imp_self, implies_true, decide_eq_true_eq, decide_eq_false_iff_not, Nat.reduceAdd, Nat.reduceLeDiff, Bool.not_not, reduceCtorEq, false_imp_iff, Bool.not_eq_true', Bool.not_eq_false', Bool.false_eq_true, and_self, forall_const, ne_eq, not_false_eq_true, Nat.reduceEqDiff]
        refine ⟨fun hlt => ?_, fun hge => ?_⟩
        · obtain ⟨i, rfl⟩ : ∃ i, j = i + 1 := ⟨j - 1, by omega⟩
          have e0 : ((i + 1 : Nat) : Int) - 1 = i := by omega
          rw [e0]
          have hra := root_le he1 hr1
          have h2i : 2 ^ i ≤ 2 ^ 63 := Nat.pow_le_pow_right (by decide) (by omega)
          have h64 : r + 1 * 2 ^ i < 2 ^ 64 := by rw [Nat.one_mul]; omega
          have hnr : nl r ≤ 2 := nl_le.2 (Nat.lt_of_le_of_lt hra (Nat.lt_trans ha63 (by decide)))
          have hnt : nl (r + 1 * 2 ^ i) ≤ 2 := nl_le.2 (Nat.lt_of_lt_of_le h64 (by decide))
          have hni : nl (1 * 2 ^ i) ≤ 2 := nl_le.2 (Nat.lt_of_le_of_lt (by omega) (Nat.lt_of_lt_of_le h64 (by decide)))
          have hn1 : nl 1 ≤ 2 := nl_le.2 (by decide)
          have hb1 : bitsN 1 ≤ 1 := bitsN_le.2 (by decide)
          have hpf := root_fits (e := e) h64 he2
          refine ⟨by decide, 1, i, ⟨padP_nl (a := 1) (by omega), rfl, by omega, rfl, by omega⟩, by decide, by decide, r, 1 * 2 ^ i, ⟨padP_nl (by omega), padP_nl (by omega), by omega, by omega⟩,
            r + 1 * 2 ^ i, e, ⟨padP_nl (by omega), rfl, rfl, by omega, by omega, hpf⟩, by decide, by decide, (r + 1 * 2 ^ i) ^ e, a, ⟨padP_nl (by omega), padP_nl (by omega)⟩, fun hc => ?_, fun hc => ?_⟩
          · have hle : (r + 1 * 2 ^ i) ^ e ≤ a := by
              simp only [Bool.true_and, decide_eq_true_eq] at hc
              unfold ordN at hc
              split at hc
              · omega
              · split at hc <;> omega
            refine ⟨(i, r + 1 * 2 ^ i, false), ⟨by simp only; omega, hle, ?_⟩, by simp only; omega, ?_⟩
            · dsimp only
              rw [Nat.one_mul, Nat.add_assoc, ← Nat.mul_two, ← Nat.pow_succ]; exact hr2
            · rw [IntWalk.i64_in ((i : Int) - 1) (by omega)]
              simp only [leS_mk, leL_cons, leL_nil, le_junk, le_int, le_bool, le_nil, leLL_nil, leLL_cons, leH_cons, leH_nil, leH1_box, leH1_own, leH1_gone, le_vs, le_agg, le_tup, le_ptr, le_own, le_xp, le_fn, le_opt, le_val, le_elem, le_nil_own, le_nil_vs, leH_ghost, leL_chunk, leXL_id, bnd_int, bnd_bool, bnd_val, bnd_nil, bnd_junk, bnd_vs, bnd_xp, bnd_agg, bnd_tup, bnd_ptr, bnd_own, bnd_elem, bnd_fn, bnd_iface, bnd_opt, bndL_nil, bndL_cons, lenH_cons, lenH_nil, imp_self, implies_true, true_and, and_true]
          · have hlt : a < (r + 2 ^ i) ^ e := by
              simp only [Bool.true_and, decide_eq_false_iff_not] at hc
              unfold ordN at hc
              rw [Nat.one_mul] at hc
              split at hc
              · omega
              · split at hc <;> omega
            refine ⟨(i, r, z), ⟨by simp only; omega, hr1, hlt⟩, by simp only; omega, ?_⟩
            rw [IntWalk.i64_in ((i : Int) - 1) (by omega)]
            simp only [leS_mk, leL_cons, leL_nil, le_junk, le_int, le_bool, le_nil, leLL_nil, leLL_cons, leH_cons, leH_nil, leH1_box, leH1_own, leH1_gone, le_vs, le_agg, le_tup, le_ptr, le_own, le_xp, le_fn, le_opt, le_val, le_elem, le_nil_own, le_nil_vs, leH_ghost, leL_chunk, leXL_id, bnd_int, bnd_bool, bnd_val, bnd_nil, bnd_junk, bnd_vs, bnd_xp, bnd_agg, bnd_tup, bnd_ptr, bnd_own, bnd_elem, bnd_fn, bnd_iface, bnd_opt, bndL_nil, bndL_cons, lenH_cons, lenH_nil, imp_self, implies_true, true_and, and_true]
        · obtain rfl : j = 0 := by omega
          have h : k (.tup [natS z r, .int .i64 0]) [] := h r ⟨hr1, by simpa using hr2⟩ z
          exact ans_ni h
  · exact h.1.elim
end Go.Proofs.Ytdognchniaojoaa

/- Intervals, walked: the reference's Root. -/
set_option linter.all false
namespace Go.Proofs.Ytdognchniaojoaa
open Go Go.Vx
set_option maxRecDepth 100000
set_option maxHeartbeats 4000000

def v15 : VF := { ntmps := 88, res := [.cell 4 true 2, .tmp 5], body :=
 (.seq (.region [⟨(some 2), none, .box, [.tm 0]⟩,
  ⟨(some 4), none, (.alloc [(.int .i64 0), (.int .i64 0)]), []⟩,
  ⟨(some 5), none, .mov, [.cn (.int .i64 0)]⟩])
 (.seq (.region [⟨(some 17), none, (.load true 2), [.tm 2]⟩,
  ⟨(some 18), none, (.call 33), [.tm 17]⟩,
  ⟨(some 6), none, .mov, [.tm 18]⟩])
 (.seq (.seq (.region [⟨(some 19), none, .mov, [.tm 6]⟩,
  ⟨(some 20), none, (.cmp .eql), [.tm 19, .cn (.int .i64 0)]⟩,
  ⟨(some 21), none, .mov, [.tm 20]⟩,
  ⟨(some 22), (some (21, true)), .mov, [.tm 1]⟩,
  ⟨(some 23), (some (21, true)), (.cmp .lss), [.tm 22, .cn (.int .i64 1)]⟩,
  ⟨(some 24), (some (21, true)), .mov, [.tm 23]⟩,
  ⟨(some 25), (some (24, false)), .mov, [.tm 1]⟩,
  ⟨(some 26), (some (24, false)), (.cmp .gtr), [.tm 25, .cn (.int .i64 62)]⟩,
  ⟨(some 27), (some (21, true)), .or, [.tm 24, .tm 26]⟩,
  ⟨(some 28), none, .and, [.tm 21, .tm 27]⟩])
 (.cond (.tm 28) (.region [⟨(some 6), none, .mov, [.cn (.int .i64 2)]⟩])
  .skip))
 (.seq (.seq (.region [⟨(some 29), none, .mov, [.tm 6]⟩,
  ⟨(some 30), none, (.cmp .eql), [.tm 29, .cn (.int .i64 0)]⟩,
  ⟨(some 31), none, .mov, [.tm 30]⟩,
  ⟨(some 32), (some (31, true)), (.fieldAddr 0), [.tm 2]⟩,
  ⟨(some 33), (some (31, true)), (.load false 1), [.tm 32]⟩,
  ⟨(some 34), (some (31, true)), (.cmp .lss), [.tm 33, .cn (.int .i64 0)]⟩,
  ⟨(some 35), none, .and, [.tm 31, .tm 34]⟩])
 (.cond (.tm 35) (.region [⟨(some 6), none, .mov, [.cn (.int .i64 9)]⟩])
  .skip))
 (.seq (.seq (.region [⟨(some 36), none, .mov, [.tm 6]⟩,
  ⟨(some 37), none, (.cmp .neq), [.tm 36, .cn (.int .i64 0)]⟩])
 (.cond (.tm 37) (.seq (.region [⟨(some 38), none, (.build [(.int .i64 0), (.int .i64 0)] []), []⟩,
  ⟨(some 39), none, .mov, [.tm 6]⟩,
  ⟨none, none, (.store 2), [.tm 4, .tm 38]⟩,
  ⟨(some 5), none, .mov, [.tm 39]⟩])
 .ret)
  .skip))
 (.seq (.region [⟨(some 41), none, (.fieldAddr 0), [.tm 2]⟩,
  ⟨(some 42), none, (.load false 1), [.tm 41]⟩,
  ⟨(some 43), none, (.conv .u64), [.tm 42]⟩,
  ⟨(some 44), none, (.call 55), [.tm 43]⟩,
  ⟨(some 45), none, .mov, [.tm 1]⟩,
  ⟨(some 46), none, (.call 54), [.tm 44, .tm 45]⟩,
  ⟨(some 40), none, .mov, [.tm 46]⟩,
  ⟨(some 47), none, (.ext 0), [.tm 40]⟩,
  ⟨(some 48), none, (.ext 1), [.tm 40]⟩,
  ⟨(some 7), none, .mov, [.tm 47]⟩,
  ⟨(some 8), none, .mov, [.tm 48]⟩])
 (.seq (.region [⟨(some 50), none, (.fieldAddr 1), [.tm 2]⟩,
  ⟨(some 51), none, (.load false 1), [.tm 50]⟩,
  ⟨(some 52), none, (.conv .u64), [.tm 51]⟩,
  ⟨(some 53), none, (.call 55), [.tm 52]⟩,
  ⟨(some 54), none, .mov, [.tm 1]⟩,
  ⟨(some 55), none, (.call 54), [.tm 53, .tm 54]⟩,
  ⟨(some 49), none, .mov, [.tm 55]⟩,
  ⟨(some 56), none, (.ext 0), [.tm 49]⟩,
  ⟨(some 57), none, (.ext 1), [.tm 49]⟩,
  ⟨(some 9), none, .mov, [.tm 56]⟩,
  ⟨(some 10), none, .mov, [.tm 57]⟩])
 (.seq (.region [⟨(some 59), none, .mov, [.tm 9]⟩,
  ⟨(some 60), none, .mov, [.tm 1]⟩,
  ⟨(some 61), none, (.call 56), [.tm 59, .tm 60]⟩,
  ⟨(some 58), none, .mov, [.tm 61]⟩,
  ⟨(some 62), none, (.ext 0), [.tm 58]⟩,
  ⟨(some 63), none, (.ext 1), [.tm 58]⟩,
  ⟨(some 11), none, .mov, [.tm 62]⟩,
  ⟨(some 12), none, .mov, [.tm 63]⟩])
 (.seq (.region [⟨(some 65), none, .mov, [.tm 7]⟩,
  ⟨(some 66), none, (.call 57), [.tm 65]⟩,
  ⟨(some 64), none, .mov, [.tm 66]⟩,
  ⟨(some 67), none, (.ext 0), [.tm 64]⟩,
  ⟨(some 68), none, (.ext 1), [.tm 64]⟩,
  ⟨(some 13), none, .mov, [.tm 67]⟩,
  ⟨(some 14), none, .mov, [.tm 68]⟩])
 (.seq (.region [⟨(some 70), none, .mov, [.tm 9]⟩,
  ⟨(some 71), none, (.call 57), [.tm 70]⟩,
  ⟨(some 69), none, .mov, [.tm 71]⟩,
  ⟨(some 72), none, (.ext 0), [.tm 69]⟩,
  ⟨(some 73), none, (.ext 1), [.tm 69]⟩,
  ⟨(some 15), none, .mov, [.tm 72]⟩,
  ⟨(some 16), none, .mov, [.tm 73]⟩])
 (.seq (.seq (.region [⟨(some 74), none, .mov, [.tm 11]⟩,
  ⟨(some 75), none, (.fieldAddr 1), [.tm 2]⟩,
  ⟨(some 76), none, (.load false 1), [.tm 75]⟩,
  ⟨(some 77), none, (.conv .u64), [.tm 76]⟩,
  ⟨(some 78), none, (.call 55), [.tm 77]⟩,
  ⟨(some 79), none, (.call 58), [.tm 74, .tm 78]⟩,
  ⟨(some 80), none, (.cmp .lss), [.tm 79, .cn (.int .i64 0)]⟩])
 (.cond (.tm 80) (.region [⟨(some 81), none, .mov, [.tm 15]⟩,
  ⟨(some 82), none, (.ari .add), [.tm 81, .cn (.int .u64 1)]⟩,
  ⟨(some 15), none, .mov, [.tm 82]⟩])
  .skip))
 (.seq (.region [⟨(some 83), none, .mov, [.tm 13]⟩,
  ⟨(some 84), none, (.conv .i64), [.tm 83]⟩,
  ⟨(some 85), none, .mov, [.tm 15]⟩,
  ⟨(some 86), none, (.conv .i64), [.tm 85]⟩,
  ⟨(some 87), none, (.build [(.int .i64 0), (.int .i64 0)] [(0, 1), (1, 1)]), [.tm 84, .tm 86]⟩,
  ⟨none, none, (.store 2), [.tm 4, .tm 87]⟩,
  ⟨(some 5), none, .mov, [.cn (.int .i64 0)]⟩])
 .ret)))))))))))) }
theorem v15_is : vfunc Try.prog Try.f15 = some v15 := by kernel_rfl

def S8 : Env := { ct := fun n => match n with | 33 => some iv1C | 55 => some ofC | 54 => some nrootC | 56 => some npowC | 57 => some smallC | 58 => some orderC | _ => none, fn := fun _ => none, meth := fun _ _ => none }
theorem S8_ct33 : S8.ct 33 = some iv1C := rfl
theorem S8_ct55 : S8.ct 55 = some ofC := rfl
theorem S8_ct54 : S8.ct 54 = some nrootC := rfl
theorem S8_ct56 : S8.ct 56 = some npowC := rfl
theorem S8_ct57 : S8.ct 57 = some smallC := rfl
theorem S8_ct58 : S8.ct 58 = some orderC := rfl
theorem S8_ok : EnvOk Try.prog S8 := by
  refine ⟨fun f c h => ?_, fun f vf h => ?_, fun _ _ => rfl, by kernel_rfl⟩
  · simp only [S8] at h
    split at h
    · cases h; exact ⟨rcheck_ok, Try.f33, Try.func33, by kernel_rfl, by kernel_rfl⟩
    · cases h; exact ⟨of_ok, Try.f55, Try.func55, by kernel_rfl, by kernel_rfl⟩
    · cases h; exact ⟨nroot_ok, Try.f54, Try.func54, by kernel_rfl, by kernel_rfl⟩
    · cases h; exact ⟨npow_ok, Try.f56, Try.func56, by kernel_rfl, by kernel_rfl⟩
    · cases h; exact ⟨small_ok, Try.f57, Try.func57, by kernel_rfl, by kernel_rfl⟩
    · cases h; exact ⟨order_ok, Try.f58, Try.func58, by kernel_rfl, by kernel_rfl⟩
    · cases h
  · cases h


theorem rroot_ok : rootC.ok Try.prog 15 := by
  refine contract Try.func15 v15_is S8_ok 400 rootC fun args k h => ⟨args, ?_⟩
  simp only [rootC] at h
  split at h
  · rename_i x y e
    refine ⟨by simp [leL, le], ?_⟩
    dsimp only [v15, S8_ct33, S8_ct55, S8_ct54, S8_ct56, S8_ct57, S8_ct58, iv1C, ofC, nrootC, npowC, smallC, orderC, natS, enc2, r_end, r_end1, r_nil, r_op, r_opg, r_runOp, r_op0, r_yld0, r_yld1, r_y, r_rbeg, r_rend, r_rend1, r_rfrm, r_rfrm1, r_range, r_rangeK, r_rangeE, r_draw, r_dnil, r_dop, r_dopg, r_dplq, r_dplh, r_dq, r_dq0, r_dcl1, r_dcl0, r_dct1, r_dct0, r_dgd, r_dgq1, r_dgq0, r_dctG, r_op1, r_eff, r_eff0, r_call, r_call0, r_inl, r_g, r_gq, r_gc, r_effg, r_effg0, r_callg, r_callg0, r_fin, r_pre, r_imp, r_all, r_ex, r_fing, r_preg, r_exg, r_inBlock, r_inLoop, r_frame, r_frame1, r_skip, r_stuck, r_region, r_seq, r_cond, r_cond1, r_block, r_exit, r_exit1, r_exit2, r_ret, r_loop, s_args0, s_args1, s_xt, s_xc, padL, blankL, callee, callArgs, eff, ctOf, getL, setL, S.put, S.upd, unopts, unopt, unoptsO, unoptsB, lazyO, guardOf, gbool, eMov, eNot, eNeg, eConv, eExt, eLenArr, eLen, eLenStr, eEqb, eEqv, allEq, eNil, negIf, eBool2, eCmp, eAri, ari, eBit, eDiv, eSh, eMinMax, foldMin, foldMax, kEq, pure1, cmpB, VO.quiet, resVals, resVal, tupled, popRet, popTo, cond, Option.bind, Option.map, eNew, eBox, asCells, lenH, snocH, eFieldAddr, eField, eLoad, cellsAt, getH, setH, dropL, takeL, mkAgg, lenL, lenS, shift, shiftL, shiftH, viewN, viewL, view, andT, junks, List.append_nil, Nat.beq, eIdxAddr, eIdxArr, idxN_0, idxN_1, idxN_2, idxN_3, eIndex, eStore, storeAt, spliceL, ones, one, eSlice, eSliceArr, bounds, subLo_z, addLo_z, subLo_one, addLo_one, eMake, eAppend, readS, repL, buildCells, chunk, purgeL, purgeLL, purgeH, purge, refs, refsL, List.cons_append, List.nil_append, wrOps, wrAl, wrDops, wrC, junkAt, putAll, putHs, headOf, headK, keepG, List.append_eq, headX, chkP, apartP, apartB, blk, strip, runAl, AL.ho, yld, putPs, lenN, findR, notRound, jumpK, jumpPT, jcode, List.map_cons, List.map_nil, ite_self, reduceIte]
    simp only [true_and, and_true, imp_self, implies_true, decide_eq_true_eq, decide_eq_false_iff_not, Nat.reduceAdd, Nat.reduceLeDiff, Bool.not_not, reduceCtorEq, false_imp_iff, Bool.not_eq_true', Bool.not_eq_false', Bool.false_eq_true, and_self, forall_const, ne_eq, not_false_eq_true, Nat.reduceEqDiff]
    have h : k (.tup [.agg (enc2 (rootF (x, y) e).1), .int .i64 (rootF (x, y) e).2]) [] := h
    refine ⟨fun a b => by simp [a, b], fun hb => ⟨fun h2 => by simp at h2, fun _ => ⟨fun _ => ?_, fun h2 => absurd h2 (by decide)⟩⟩, fun hb => ⟨fun hx => ⟨fun _ => ?_, fun h2 => absurd h2 (by decide)⟩, fun hx => ⟨fun he => ?_, fun he => ?_⟩⟩⟩
    · simp only [Bool.and_eq_true, Bool.or_eq_true, decide_eq_true_eq] at hb
      rw [rootF, if_neg (by omega), if_pos (by omega)] at h
      exact ans_iv (r := errI 2) h
    · simp only [Bool.and_eq_true, decide_eq_true_eq] at hx
      have hb' : ¬ (e < 1 ∨ 62 < e) := by
        intro hh
        have : (decide (ivE [(x, y)] = 0) && (decide (e < 1) || decide (62 < e))) = true := by
          simp only [Bool.and_eq_true, Bool.or_eq_true, decide_eq_true_eq]; exact ⟨hx.1, hh⟩
        rw [this] at hb; cases hb
      rw [rootF, if_neg (by omega), if_neg hb', if_pos hx.2] at h
      exact ans_iv (r := errI 9) h
    · rw [rootF, if_pos he] at h
      exact ans_iv (r := errI (ivE [(x, y)])) h
    · have hb' : ¬ (e < 1 ∨ 62 < e) := by
        intro hh
        have : (decide (ivE [(x, y)] = 0) && (decide (e < 1) || decide (62 < e))) = true := by
          simp only [Bool.and_eq_true, Bool.or_eq_true, decide_eq_true_eq]; exact ⟨he, hh⟩
        rw [this] at hb; cases hb
      have hx' : ¬ x < 0 := by
        intro hh
        have : (decide (ivE [(x, y)] = 0) && decide (x < 0)) = true := by
          simp only [Bool.and_eq_true, decide_eq_true_eq]; exact ⟨he, hh⟩
        rw [this] at hx; cases hx
      obtain ⟨h1, h2, h3⟩ := ivE1 he
      dsimp only at h1 h2 h3
      rw [rootF, if_neg (by rw [he]; simp), if_neg hb', if_neg hx'] at h
      clear hb hx
      obtain ⟨x, rfl⟩ := Int.eq_ofNat_of_zero_le (by omega : 0 ≤ x)
      obtain ⟨y, rfl⟩ := Int.eq_ofNat_of_zero_le (by omega : 0 ≤ y)
      obtain ⟨e, rfl⟩ := Int.eq_ofNat_of_zero_le (by omega : 0 ≤ e)
      simp only [IntWalk.u64_in (x : Int) (by omega), IntWalk.u64_in (y : Int) (by omega)]
      simp only [Int.toNat_natCast] at h ⊢
      have nx : nl x ≤ 2 := nl_le.2 (by omega)
      have ny : nl y ≤ 2 := nl_le.2 (by omega)
      refine ⟨⟨by omega, by omega⟩, x, e, ⟨padP_nl (by omega), rfl, rfl, by omega, by omega, by omega⟩, fun r ⟨r1, r2⟩ => ⟨by decide, by decide, ⟨by omega, by omega⟩, y, e, ⟨padP_nl (by omega), rfl, rfl, by omega, by omega, by omega⟩, fun q ⟨q1, q2⟩ => ?_⟩⟩
      have rx : rootN x e = r := rootN_eq (by omega) r1 r2
      have ry : rootN y e = q := rootN_eq (by omega) q1 q2
      have lr := root_le (by omega) r1
      have lq := root_le (by omega) q1
      have nr : nl r ≤ 2 := Nat.le_trans (nl_mono lr) nx
      have nq : nl q ≤ 2 := Nat.le_trans (nl_mono lq) ny
      have fq := root_fits (r := q) (e := e) (by omega) (by omega)
      rw [rx] at h
      unfold rootUp at h
      rw [ry] at h
      refine ⟨by decide, by decide, q, e, ⟨padP_nl (by omega), rfl, rfl, by omega, by omega, fq⟩, by decide, by decide, r, ⟨padP_nl (by omega), rfl, by omega⟩, by decide, by decide, q, ⟨padP_nl (by omega), rfl, by omega⟩, by decide, by decide, ⟨by omega, by omega⟩, q ^ e, y, ⟨padP_nl (by omega), padP_nl (by omega)⟩, ?_⟩
      have ho : ordN (q ^ e) y < 0 ↔ q ^ e < y := by
        unfold ordN
        split
        · simp; omega
        · split <;> simp <;> omega
      rw [ho]
      simp only [if_pos (show r < 18446744073709551616 by omega), if_pos (show q < 18446744073709551616 by omega)]
      rw [IntWalk.u64_in ((q : Int) + 1) (by omega), IntWalk.i64_in ((q : Int) + 1) (by omega), IntWalk.i64_in (r : Int) (by omega), IntWalk.i64_in (q : Int) (by omega)]
      refine ⟨fun hc => ?_, fun hc => ?_⟩
      · rw [if_pos hc] at h
        exact ans_iv (r := (((r : Int), ((q + 1 : Nat) : Int)), 0)) h
      · rw [if_neg hc] at h
        exact ans_iv (r := (((r : Int), (q : Int)), 0)) h
  · exact h.1.elim
end Go.Proofs.Ytdognchniaojoaa

/- Spans: the law of scales, powers and roots, walked. -/
set_option linter.all false
namespace Go.Proofs.Ytdognchniaojoaa
open Go Go.Vx
set_option maxRecDepth 100000
set_option maxHeartbeats 4000000

def v3 : VF := { ntmps := 92, res := [.tmp 6], body :=
 (.seq (.region [⟨(some 3), none, .box, [.tm 0]⟩,
  ⟨(some 4), none, .box, [.tm 1]⟩,
  ⟨(some 6), none, .mov, [.cn (.bool false)]⟩])
 (.seq (.region [⟨(some 20), none, (.load true 2), [.tm 3]⟩,
  ⟨(some 21), none, (.idxArr 2 1), [.tm 4, .cn (.int .i64 0)]⟩,
  ⟨(some 22), none, (.load false 1), [.tm 21]⟩,
  ⟨(some 23), none, (.idxArr 2 1), [.tm 4, .cn (.int .i64 1)]⟩,
  ⟨(some 24), none, (.load false 1), [.tm 23]⟩,
  ⟨(some 25), none, (.call 10), [.tm 20, .tm 22, .tm 24]⟩,
  ⟨(some 19), none, .mov, [.tm 25]⟩,
  ⟨(some 26), none, (.ext 0), [.tm 19]⟩,
  ⟨(some 27), none, (.ext 1), [.tm 19]⟩,
  ⟨(some 7), none, (.alloc [(.int .i64 0), (.int .i64 0)]), []⟩,
  ⟨none, none, (.store 2), [.tm 7, .tm 26]⟩,
  ⟨(some 8), none, .mov, [.tm 27]⟩])
 (.seq (.region [⟨(some 29), none, (.load true 2), [.tm 3]⟩,
  ⟨(some 30), none, (.idxArr 2 1), [.tm 4, .cn (.int .i64 0)]⟩,
  ⟨(some 31), none, (.load false 1), [.tm 30]⟩,
  ⟨(some 32), none, (.idxArr 2 1), [.tm 4, .cn (.int .i64 1)]⟩,
  ⟨(some 33), none, (.load false 1), [.tm 32]⟩,
  ⟨(some 34), none, (.call 11), [.tm 29, .tm 31, .tm 33]⟩,
  ⟨(some 28), none, .mov, [.tm 34]⟩,
  ⟨(some 35), none, (.ext 0), [.tm 28]⟩,
  ⟨(some 36), none, (.ext 1), [.tm 28]⟩,
  ⟨(some 9), none, (.alloc [(.int .i64 0), (.int .i64 0)]), []⟩,
  ⟨none, none, (.store 2), [.tm 9, .tm 35]⟩,
  ⟨(some 10), none, .mov, [.tm 36]⟩])
 (.seq (.region [⟨(some 38), none, (.load true 2), [.tm 3]⟩,
  ⟨(some 39), none, .mov, [.tm 2]⟩,
  ⟨(some 40), none, (.call 12), [.tm 38, .tm 39]⟩,
  ⟨(some 37), none, .mov, [.tm 40]⟩,
  ⟨(some 41), none, (.ext 0), [.tm 37]⟩,
  ⟨(some 42), none, (.ext 1), [.tm 37]⟩,
  ⟨(some 11), none, (.alloc [(.int .i64 0), (.int .i64 0)]), []⟩,
  ⟨none, none, (.store 2), [.tm 11, .tm 41]⟩,
  ⟨(some 12), none, .mov, [.tm 42]⟩])
 (.seq (.region [⟨(some 44), none, (.load true 2), [.tm 3]⟩,
  ⟨(some 45), none, .mov, [.tm 2]⟩,
  ⟨(some 46), none, (.call 13), [.tm 44, .tm 45]⟩,
  ⟨(some 43), none, .mov, [.tm 46]⟩,
  ⟨(some 47), none, (.ext 0), [.tm 43]⟩,
  ⟨(some 48), none, (.ext 1), [.tm 43]⟩,
  ⟨(some 13), none, (.alloc [(.int .i64 0), (.int .i64 0)]), []⟩,
  ⟨none, none, (.store 2), [.tm 13, .tm 47]⟩,
  ⟨(some 14), none, .mov, [.tm 48]⟩])
 (.seq (.region [⟨(some 50), none, (.load true 2), [.tm 3]⟩,
  ⟨(some 51), none, .mov, [.tm 2]⟩,
  ⟨(some 52), none, (.call 14), [.tm 50, .tm 51]⟩,
  ⟨(some 49), none, .mov, [.tm 52]⟩,
  ⟨(some 53), none, (.ext 0), [.tm 49]⟩,
  ⟨(some 54), none, (.ext 1), [.tm 49]⟩,
  ⟨(some 15), none, (.alloc [(.int .i64 0), (.int .i64 0)]), []⟩,
  ⟨none, none, (.store 2), [.tm 15, .tm 53]⟩,
  ⟨(some 16), none, .mov, [.tm 54]⟩])
 (.seq (.region [⟨(some 56), none, (.load true 2), [.tm 3]⟩,
  ⟨(some 57), none, .mov, [.tm 2]⟩,
  ⟨(some 58), none, (.call 15), [.tm 56, .tm 57]⟩,
  ⟨(some 55), none, .mov, [.tm 58]⟩,
  ⟨(some 59), none, (.ext 0), [.tm 55]⟩,
  ⟨(some 60), none, (.ext 1), [.tm 55]⟩,
  ⟨(some 17), none, (.alloc [(.int .i64 0), (.int .i64 0)]), []⟩,
  ⟨none, none, (.store 2), [.tm 17, .tm 59]⟩,
  ⟨(some 18), none, .mov, [.tm 60]⟩])
 (.seq (.region [⟨(some 61), none, (.load true 2), [.tm 7]⟩,
  ⟨(some 62), none, (.load true 2), [.tm 9]⟩,
  ⟨(some 63), none, (.eqv false [true, true]), [.tm 61, .tm 62]⟩,
  ⟨(some 64), none, .mov, [.tm 63]⟩,
  ⟨(some 65), (some (64, true)), .mov, [.tm 8]⟩,
  ⟨(some 66), (some (64, true)), .mov, [.tm 10]⟩,
  ⟨(some 67), (some (64, true)), (.cmp .eql), [.tm 65, .tm 66]⟩,
  ⟨(some 68), none, .and, [.tm 64, .tm 67]⟩,
  ⟨(some 69), none, .mov, [.tm 68]⟩,
  ⟨(some 70), (some (69, true)), (.load true 2), [.tm 11]⟩,
  ⟨(some 71), (some (69, true)), (.load true 2), [.tm 13]⟩,
  ⟨(some 72), (some (69, true)), (.eqv false [true, true]), [.tm 70, .tm 71]⟩,
  ⟨(some 73), none, .and, [.tm 69, .tm 72]⟩,
  ⟨(some 74), none, .mov, [.tm 73]⟩,
  ⟨(some 75), (some (74, true)), .mov, [.tm 12]⟩,
  ⟨(some 76), (some (74, true)), .mov, [.tm 14]⟩,
  ⟨(some 77), (some (74, true)), (.cmp .eql), [.tm 75, .tm 76]⟩,
  ⟨(some 78), none, .and, [.tm 74, .tm 77]⟩,
  ⟨(some 79), none, .mov, [.tm 78]⟩,
  ⟨(some 80), (some (79, true)), (.load true 2), [.tm 15]⟩,
  ⟨(some 81), (some (79, true)), (.load true 2), [.tm 17]⟩,
  ⟨(some 82), (some (79, true)), (.eqv false [true, true]), [.tm 80, .tm 81]⟩,
  ⟨(some 83), none, .and, [.tm 79, .tm 82]⟩,
  ⟨(some 84), none, .mov, [.tm 83]⟩,
  ⟨(some 85), (some (84, true)), .mov, [.tm 16]⟩,
  ⟨(some 86), (some (84, true)), .mov, [.tm 18]⟩,
  ⟨(some 87), (some (84, true)), (.cmp .eql), [.tm 85, .tm 86]⟩,
  ⟨(some 88), none, .and, [.tm 84, .tm 87]⟩,
  ⟨(some 89), none, .mov, [.tm 88]⟩,
  ⟨(some 90), (some (89, true)), (.call 16), []⟩,
  ⟨(some 91), none, .and, [.tm 89, .tm 90]⟩,
  ⟨(some 6), none, .mov, [.tm 91]⟩])
 .ret)))))))) }
theorem v3_is : vfunc Try.prog Try.f3 = some v3 := by kernel_rfl


def A8 : Env := { ct := fun n => match n with | 16 => some trueC | 10 => some sclC | 11 => some sclC | 12 => some powC | 13 => some powC | 14 => some rootC | 15 => some rootC | _ => none, fn := fun _ => none, meth := fun _ _ => none }
theorem A8_ct16 : A8.ct 16 = some trueC := rfl
theorem A8_ct10 : A8.ct 10 = some sclC := rfl
theorem A8_ct11 : A8.ct 11 = some sclC := rfl
theorem A8_ct12 : A8.ct 12 = some powC := rfl
theorem A8_ct13 : A8.ct 13 = some powC := rfl
theorem A8_ct14 : A8.ct 14 = some rootC := rfl
theorem A8_ct15 : A8.ct 15 = some rootC := rfl
theorem A8_ok : EnvOk Try.prog A8 := by
  refine ⟨fun f c h => ?_, fun f vf h => ?_, fun _ _ => rfl, by kernel_rfl⟩
  · simp only [A8] at h
    split at h
    · cases h; exact ⟨awake_ok, Try.f16, Try.func16, by kernel_rfl, by kernel_rfl⟩
    · cases h; exact ⟨scl_ok, Try.f10, Try.func10, by kernel_rfl, by kernel_rfl⟩
    · cases h; exact ⟨rscl_ok, Try.f11, Try.func11, by kernel_rfl, by kernel_rfl⟩
    · cases h; exact ⟨pow_ok, Try.f12, Try.func12, by kernel_rfl, by kernel_rfl⟩
    · cases h; exact ⟨rpow_ok, Try.f13, Try.func13, by kernel_rfl, by kernel_rfl⟩
    · cases h; exact ⟨root_ok, Try.f14, Try.func14, by kernel_rfl, by kernel_rfl⟩
    · cases h; exact ⟨rroot_ok, Try.f15, Try.func15, by kernel_rfl, by kernel_rfl⟩
    · cases h
  · cases h


def shI : List Sh := [.int .i64, .int .i64]
theorem two_of {c : List SV} (h : okSL shI c) : ∃ x y : Int, c = [.int .i64 x, .int .i64 y] := by
  obtain ⟨_, _, rfl, ⟨n1, rfl, _⟩, e1⟩ := okSL_cons_inv h
  obtain ⟨_, _, rfl, ⟨n2, rfl, _⟩, e2⟩ := okSL_cons_inv e1
  cases okSL_nil_inv e2
  exact ⟨n1, n2, rfl⟩

def law3 : List PSh := [⟨true, shI⟩, ⟨true, shI⟩, ⟨false, [.int .i64]⟩]

theorem lawScales : (lawC law3).ok Try.prog 3 := by
  refine contract Try.func3 v3_is A8_ok 400 (lawC law3) fun args k h => ?_
  obtain ⟨ha, hk⟩ := h
  obtain ⟨_, _, rfl, h1, e1⟩ := okPL_cons_inv ha
  obtain ⟨cs, rfl, hcs⟩ := okP_agg_inv h1
  obtain ⟨_, _, rfl, h2, e2⟩ := okPL_cons_inv e1
  obtain ⟨ds, rfl, hds⟩ := okP_agg_inv h2
  obtain ⟨_, _, rfl, h3, e3⟩ := okPL_cons_inv e2
  obtain ⟨e, rfl, he⟩ := okP_one_inv h3
  cases okPL_nil_inv e3
  obtain ⟨x, y, rfl⟩ := two_of hcs
  obtain ⟨u, v, rfl⟩ := two_of hds
  refine ⟨[.agg [.int .i64 x, .int .i64 y], .agg [.int .i64 u, .int .i64 v], .int .i64 e], ⟨leXL_le _ _ (leXL_self _) (by simp only [bndL_cons, bndL_nil, bnd_vs, bnd_int, and_self]), leXL_le _ _ (leXL_self _) (by simp only [bndL_cons, bndL_nil, bnd_vs, bnd_int, and_self]), ⟨rfl, rfl⟩, trivial⟩, ?_⟩
  dsimp only [v3, A8_ct16, A8_ct10, A8_ct12, A8_ct14, A8_ct11, A8_ct13, A8_ct15, trueC, sclC, powC, rootC, enc2, go_sem, Option.bind, Option.map, List.append_nil, Nat.beq, List.cons_append, List.nil_append, List.append_eq, List.map_cons, List.map_nil, ite_self, reduceIte]
  simp only [true_and, and_true, imp_self, implies_true, decide_eq_true_eq, decide_eq_false_iff_not, Nat.reduceAdd, Nat.reduceLeDiff, Bool.not_not, reduceCtorEq, false_imp_iff, Bool.not_eq_true', Bool.not_eq_false', Bool.false_eq_true, and_self, forall_const, ne_eq, not_false_eq_true, Nat.reduceEqDiff]
  have hk' : k (.bool true) [] := hk
  exact ⟨by decide, by decide, by decide, by decide, by decide, by decide, by decide, by decide, by decide, by decide, by decide, by decide, by decide, by decide, by decide, by decide, ans_bool (by simpa using hk')⟩
end Go.Proofs.Ytdognchniaojoaa

/- A law of spans, as it is given, without a condition. -/
set_option linter.all false
namespace Go.Proofs.Ytdognchniaojoaa
open Go Go.Vx Go.RowKit
set_option maxRecDepth 100000

theorem own6 : ownKnob Try.prog.godebug = none := by kernel_rfl
theorem laid6 : laidOutB Try.prog = true := by kernel_rfl

theorem spansScales_lifted (os : Os) (started : os.Started) (H : Type) (enc : TypeId × Value → H) :
    ReturnsInHanded {} Try.checked os 3 .any (Rows.spansScalesSpec.pre6 enc Try.prog Try.f3 Rows.spansScalesRow.domain false) (Rows.spansScalesSpec.post enc Try.prog Try.f3 false true false false) :=
  law_lifted (C := Try.checked) (tb := 4) own6 started (by kernel_rfl) Try.func3 laid6
    (ChangeSpec.witness6 (enc := enc) (C := Try.checked) false ⟨#[], #[.agg #[.int .i64 0, .int .i64 0], .agg #[.int .i64 0, .int .i64 0], .int .i64 0], []⟩ 8 (by kernel_rfl) (by kernel_rfl) (by kernel_rfl) (by kernel_rfl))
    (by kernel_rfl) (by kernel_rfl) (by kernel_rfl) (by kernel_rfl) rfl (fun ds h => match ds, h with | [_, _, _], _ => ⟨rfl, rfl, rfl⟩) lawScales

theorem spansScales_holds : Rows.SpansScalesSaid :=
  OpenClaim.holds_of_wide 3 Try.f3 rfl rfl rfl rfl rfl rfl rfl ⟨rfl, rfl, rfl, rfl, rfl⟩ rfl rfl rfl rfl rfl (by kernel_rfl) Try.func3 (by kernel_rfl)
    (of_decide_eq_true (by kernel_rfl)) (by unfold Func.isWrapper; first | (rw [if_pos (by decide +kernel)]; kernel_rfl) | (rw [if_neg (by decide +kernel)]; exact ⟨rfl, rfl⟩))
    (fun os started H enc _ => spansScales_lifted os started H enc)

end Go.Proofs.Ytdognchniaojoaa

