/- Fractions, walked: powers. -/
import Derived.Test.YtdognchniaojoaaR6
set_option linter.all false
namespace Go.Proofs.Ytdognchniaojoaa
open Go Go.Vx
set_option maxRecDepth 100000
set_option maxHeartbeats 4000000

def v75 : VF := { ntmps := 27, res := [.tmp 4, .tmp 5], body :=
 (.seq (.region [⟨(some 4), none, .mov, [.cn .nil]⟩,
  ⟨(some 5), none, .mov, [.cn (.bool false)]⟩])
 (.seq (.region [⟨(some 8), none, (.call 55), [.cn (.int .u64 1)]⟩,
  ⟨(some 6), none, .mov, [.tm 8]⟩])
 (.seq (.seq (.region [⟨(some 9), none, .mov, [.tm 0]⟩,
  ⟨(some 10), none, .mov, [.tm 6]⟩,
  ⟨(some 11), none, (.call 58), [.tm 9, .tm 10]⟩,
  ⟨(some 12), none, (.cmp .leq), [.tm 11, .cn (.int .i64 0)]⟩])
 (.cond (.tm 12) (.region [⟨(some 13), none, .mov, [.tm 1]⟩,
  ⟨(some 14), none, .min, [.tm 13, .cn (.int .i64 1)]⟩,
  ⟨(some 1), none, .mov, [.tm 14]⟩])
  .skip))
 (.seq (.seq (.region [⟨(some 7), none, .mov, [.cn (.int .i64 0)]⟩])
 (.block 0 (.loop (.seq (.seq (.region [⟨(some 15), none, .mov, [.tm 7]⟩,
  ⟨(some 16), none, .mov, [.tm 1]⟩,
  ⟨(some 17), none, (.cmp .lss), [.tm 15, .tm 16]⟩])
 (.cond (.tm 17) .skip
  (.exit 0)))
 (.seq (.block 1 (.seq (.region [⟨(some 20), none, .mov, [.tm 6]⟩,
  ⟨(some 21), none, .mov, [.tm 0]⟩,
  ⟨(some 22), none, (.call 71), [.tm 20, .tm 21]⟩,
  ⟨(some 6), none, .mov, [.tm 22]⟩])
 (.seq (.region [⟨(some 23), none, .mov, [.tm 6]⟩,
  ⟨(some 24), none, .len, [.tm 23]⟩,
  ⟨(some 25), none, (.cmp .gtr), [.tm 24, .cn (.int .i64 512)]⟩])
 (.cond (.tm 25) (.seq (.region [⟨(some 4), none, .mov, [.cn .nil]⟩,
  ⟨(some 5), none, .mov, [.cn (.bool false)]⟩])
 .ret)
  .skip))))
 (.region [⟨(some 18), none, .mov, [.tm 7]⟩,
  ⟨(some 19), none, (.ari .add), [.tm 18, .cn (.int .i64 1)]⟩,
  ⟨(some 7), none, .mov, [.tm 19]⟩]))))))
 (.seq (.region [⟨(some 26), none, .mov, [.tm 6]⟩,
  ⟨(some 4), none, .mov, [.tm 26]⟩,
  ⟨(some 5), none, .mov, [.cn (.bool true)]⟩])
 .ret))))) }
theorem v75_is : vfunc Try.prog Try.f75 = some v75 := by kernel_rfl
def v52 : VF := { ntmps := 87, res := [.cell 4 true 3, .tmp 5], body :=
 (.seq (.region [⟨(some 2), none, .box, [.tm 0]⟩,
  ⟨(some 4), none, (.alloc [(.bool false), .nil, .nil]), []⟩,
  ⟨(some 5), none, .mov, [.cn (.int .i64 0)]⟩])
 (.seq (.region [⟨(some 13), none, (.load true 3), [.tm 2]⟩,
  ⟨(some 14), none, (.buildSlice 3 1 [(.bool false), .nil, .nil] [(0, 3)]), [.tm 13]⟩,
  ⟨(some 15), none, (.call 69), [.tm 14]⟩,
  ⟨(some 6), none, .mov, [.tm 15]⟩])
 (.seq (.seq (.region [⟨(some 16), none, .mov, [.tm 6]⟩,
  ⟨(some 17), none, (.cmp .eql), [.tm 16, .cn (.int .i64 0)]⟩,
  ⟨(some 18), none, .mov, [.tm 17]⟩,
  ⟨(some 19), (some (18, true)), .mov, [.tm 1]⟩,
  ⟨(some 20), (some (18, true)), (.cmp .lss), [.tm 19, .cn (.int .i64 (-2000))]⟩,
  ⟨(some 21), (some (18, true)), .mov, [.tm 20]⟩,
  ⟨(some 22), (some (21, false)), .mov, [.tm 1]⟩,
  ⟨(some 23), (some (21, false)), (.cmp .gtr), [.tm 22, .cn (.int .i64 2000)]⟩,
  ⟨(some 24), (some (18, true)), .or, [.tm 21, .tm 23]⟩,
  ⟨(some 25), none, .and, [.tm 18, .tm 24]⟩])
 (.cond (.tm 25) (.region [⟨(some 6), none, .mov, [.cn (.int .i64 2)]⟩])
  .skip))
 (.seq (.seq (.region [⟨(some 26), none, .mov, [.tm 6]⟩,
  ⟨(some 27), none, (.cmp .eql), [.tm 26, .cn (.int .i64 0)]⟩,
  ⟨(some 28), none, .mov, [.tm 27]⟩,
  ⟨(some 29), (some (28, true)), .mov, [.tm 1]⟩,
  ⟨(some 30), (some (28, true)), (.cmp .lss), [.tm 29, .cn (.int .i64 0)]⟩,
  ⟨(some 31), none, .and, [.tm 28, .tm 30]⟩,
  ⟨(some 32), none, .mov, [.tm 31]⟩,
  ⟨(some 33), (some (32, true)), (.fieldAddr 1), [.tm 2]⟩,
  ⟨(some 34), (some (32, true)), (.load false 1), [.tm 33]⟩,
  ⟨(some 35), (some (32, true)), .len, [.tm 34]⟩,
  ⟨(some 36), (some (32, true)), (.cmp .eql), [.tm 35, .cn (.int .i64 0)]⟩,
  ⟨(some 37), none, .and, [.tm 32, .tm 36]⟩])
 (.cond (.tm 37) (.region [⟨(some 6), none, .mov, [.cn (.int .i64 4)]⟩])
  .skip))
 (.seq (.seq (.region [⟨(some 38), none, .mov, [.tm 6]⟩,
  ⟨(some 39), none, (.cmp .neq), [.tm 38, .cn (.int .i64 0)]⟩])
 (.cond (.tm 39) (.seq (.region [⟨(some 40), none, (.build [(.bool false), .nil, .nil] []), []⟩,
  ⟨(some 41), none, .mov, [.tm 6]⟩,
  ⟨none, none, (.store 3), [.tm 4, .tm 40]⟩,
  ⟨(some 5), none, .mov, [.tm 41]⟩])
 .ret)
  .skip))
 (.seq (.draw [] [⟨⟨(some 42), none, (.fieldAddr 1), [.tm 2]⟩, []⟩,
  ⟨⟨(some 43), none, (.load false 1), [.tm 42]⟩, []⟩,
  ⟨⟨(some 44), none, (.fieldAddr 2), [.tm 2]⟩, []⟩,
  ⟨⟨(some 45), none, (.load false 1), [.tm 44]⟩, []⟩,
  ⟨⟨(some 7), none, .mov, [.tm 43]⟩, []⟩,
  ⟨⟨(some 8), none, .mov, [.tm 45]⟩, []⟩])
 (.seq (.seq (.region [⟨(some 46), none, .mov, [.tm 1]⟩,
  ⟨(some 47), none, (.cmp .lss), [.tm 46, .cn (.int .i64 0)]⟩])
 (.cond (.tm 47) (.region [⟨(some 48), none, .mov, [.tm 8]⟩,
  ⟨(some 49), none, .mov, [.tm 7]⟩,
  ⟨(some 7), none, .mov, [.tm 48]⟩,
  ⟨(some 8), none, .mov, [.tm 49]⟩])
  .skip))
 (.seq (.region [⟨(some 51), none, .mov, [.tm 7]⟩,
  ⟨(some 52), none, .mov, [.tm 1]⟩,
  ⟨(some 53), none, .mov, [.tm 1]⟩,
  ⟨(some 54), none, .neg, [.tm 53]⟩,
  ⟨(some 55), none, .max, [.tm 52, .tm 54]⟩,
  ⟨(some 56), none, (.call 75), [.tm 51, .tm 55]⟩,
  ⟨(some 50), none, .mov, [.tm 56]⟩,
  ⟨(some 57), none, (.ext 0), [.tm 50]⟩,
  ⟨(some 58), none, (.ext 1), [.tm 50]⟩,
  ⟨(some 9), none, .mov, [.tm 57]⟩,
  ⟨(some 10), none, .mov, [.tm 58]⟩])
 (.seq (.region [⟨(some 60), none, .mov, [.tm 8]⟩,
  ⟨(some 61), none, .mov, [.tm 1]⟩,
  ⟨(some 62), none, .mov, [.tm 1]⟩,
  ⟨(some 63), none, .neg, [.tm 62]⟩,
  ⟨(some 64), none, .max, [.tm 61, .tm 63]⟩,
  ⟨(some 65), none, (.call 75), [.tm 60, .tm 64]⟩,
  ⟨(some 59), none, .mov, [.tm 65]⟩,
  ⟨(some 66), none, (.ext 0), [.tm 59]⟩,
  ⟨(some 67), none, (.ext 1), [.tm 59]⟩,
  ⟨(some 11), none, .mov, [.tm 66]⟩,
  ⟨(some 12), none, .mov, [.tm 67]⟩])
 (.seq (.seq (.region [⟨(some 68), none, .mov, [.tm 10]⟩,
  ⟨(some 69), none, .not, [.tm 68]⟩,
  ⟨(some 70), none, .mov, [.tm 69]⟩,
  ⟨(some 71), (some (70, false)), .mov, [.tm 12]⟩,
  ⟨(some 72), (some (70, false)), .not, [.tm 71]⟩,
  ⟨(some 73), none, .or, [.tm 70, .tm 72]⟩])
 (.cond (.tm 73) (.seq (.region [⟨(some 74), none, (.build [(.bool false), .nil, .nil] []), []⟩,
  ⟨none, none, (.store 3), [.tm 4, .tm 74]⟩,
  ⟨(some 5), none, .mov, [.cn (.int .i64 3)]⟩])
 .ret)
  .skip))
 (.seq (.region [⟨(some 75), none, (.fieldAddr 0), [.tm 2]⟩,
  ⟨(some 76), none, (.load false 1), [.tm 75]⟩,
  ⟨(some 77), none, .mov, [.tm 76]⟩,
  ⟨(some 78), (some (77, true)), .mov, [.tm 1]⟩,
  ⟨(some 79), (some (77, true)), .rem, [.tm 78, .cn (.int .i64 2)]⟩,
  ⟨(some 80), (some (77, true)), (.cmp .neq), [.tm 79, .cn (.int .i64 0)]⟩,
  ⟨(some 81), none, .and, [.tm 77, .tm 80]⟩,
  ⟨(some 82), none, .mov, [.tm 9]⟩,
  ⟨(some 83), none, .mov, [.tm 11]⟩,
  ⟨(some 84), none, (.call 70), [.tm 81, .tm 82, .tm 83]⟩,
  ⟨(some 85), none, (.ext 0), [.tm 84]⟩,
  ⟨(some 86), none, (.ext 1), [.tm 84]⟩,
  ⟨none, none, (.store 3), [.tm 4, .tm 85]⟩,
  ⟨(some 5), none, .mov, [.tm 86]⟩])
 .ret))))))))))) }
theorem v52_is : vfunc Try.prog Try.f52 = some v52 := by kernel_rfl


def powerC : Ctr := { alias := false, of := fun l => match l with
  | [.vs _ _ n sz get, .int .i64 k] => .ex Nat fun a => .ex Nat fun e => .pre (padP a n sz get ∧ n = nl a ∧ k = (e : Int) ∧ e ≤ 20000 ∧ nl a ≤ 512 ∧ nl (a ^ e) ≤ 512) (.fin (.tup [natS false (a ^ e), .bool true]) [])
  | _ => noC }

def T0 : Env := { ct := fun n => match n with | 55 => some ofC | 58 => some orderC | 71 => some timesC | _ => none, fn := fun _ => none, meth := fun _ _ => none }
theorem T0_ct55 : T0.ct 55 = some ofC := rfl
theorem T0_ct58 : T0.ct 58 = some orderC := rfl
theorem T0_ct71 : T0.ct 71 = some timesC := rfl
theorem T0_ok : EnvOk Try.prog T0 := by
  refine ⟨fun f c h => ?_, fun f vf h => ?_, fun _ _ => rfl, by kernel_rfl⟩
  · simp only [T0] at h
    split at h
    · cases h; exact ⟨of_ok, Try.f55, Try.func55, by kernel_rfl, by kernel_rfl⟩
    · cases h; exact ⟨order_ok, Try.f58, Try.func58, by kernel_rfl, by kernel_rfl⟩
    · cases h; exact ⟨times_ok, Try.f71, Try.func71, by kernel_rfl, by kernel_rfl⟩
    · cases h
  · cases h


theorem pow_cut (a e : Nat) (h : a ≤ 1) : a ^ (min e 1) = a ^ e := by
  rcases Nat.eq_zero_or_pos e with h0 | h0
  · subst h0; rfl
  · rw [Nat.min_eq_right h0, Nat.pow_one]
    rcases Nat.le_one_iff_eq_zero_or_eq_one.1 h with rfl | rfl
    · rw [Nat.zero_pow h0]
    · rw [Nat.one_pow]
theorem pow_fits {a e i : Nat} (he : nl (a ^ e) ≤ 512) (hi : i ≤ e) : nl (a ^ i) ≤ 512 := by
  rcases Nat.eq_zero_or_pos a with h | h
  · subst h
    rcases Nat.eq_zero_or_pos i with h0 | h0
    · subst h0; exact Nat.le_trans (nl_le (n := 1).2 (by decide)) (by decide)
    · rw [Nat.zero_pow h0, nl_0]; decide
  · exact Nat.le_trans (nl_mono (Nat.pow_le_pow_right h hi)) he
theorem ans_nb {k : SV → List HO → Prop} {al : Bool} {hp : List HO} {z b : Bool} {a : Nat} (h : k (.tup [natS z a, .bool b]) []) : answers al k (.tup [.vs true z (nl a) 1 (fun k => [.int .u32 (dig a k)]), .bool b]) hp :=
  ans_le h (le_self (.tup [natS z a, .bool b]) ⟨trivial, trivial, trivial⟩) (fun _ => by simp [natS, freshS, freshL])

theorem power_ok : powerC.ok Try.prog 75 := by
  refine contract Try.func75 v75_is T0_ok 300 powerC fun args k h => ?_
  simp only [powerC] at h
  split at h
  · rename_i t1 z1 n sz get e'
    obtain ⟨a, e, ⟨⟨rfl, hn, ha, hg⟩, rfl, rfl, he2, hna, hfit⟩, h⟩ := h
    refine ⟨[.vs t1 z1 (nl a) 1 (fun k => [.int .u32 (dig a k)]), .int .i64 e], ⟨by simpa [le] using hg, ⟨rfl, rfl⟩, trivial⟩, ?_⟩
    dsimp only [v75, T0_ct55, T0_ct58, T0_ct71, ofC, orderC, timesC, natS, r_end, r_end1, r_nil, r_op, r_opg, r_runOp, r_op0, r_yld0, r_yld1, r_y, r_rbeg, r_rend, r_rend1, r_rfrm, r_rfrm1, r_range, r_rangeK, r_rangeE, r_draw, r_dnil, r_dop, r_dopg, r_dplq, r_dplh, r_dq, r_dq0, r_dcl1, r_dcl0, r_dct1, r_dct0, r_dgd, r_dgq1, r_dgq0, r_dctG, r_op1, r_eff, r_eff0, r_call, r_call0, r_inl, r_g, r_gq, r_gc, r_effg, r_effg0, r_callg, r_callg0, r_fin, r_pre, r_imp, r_all, r_ex, r_fing, r_preg, r_exg, r_inBlock, r_inLoop, r_frame, r_frame1, r_skip, r_stuck, r_region, r_seq, r_cond, r_cond1, r_block, r_exit, r_exit1, r_exit2, r_ret, r_loop, s_args0, s_args1, s_xt, s_xc, padL, blankL, callee, callArgs, eff, ctOf, getL, setL, S.put, S.upd, unopts, unopt, unoptsO, unoptsB, lazyO, guardOf, gbool, eMov, eNot, eNeg, eConv, eExt, eLenArr, eLen, eLenStr, eEqb, eEqv, allEq, eNil, negIf, eBool2, eCmp, eAri, ari, eBit, eDiv, eSh, eMinMax, foldMin, foldMax, kEq, pure1, cmpB, VO.quiet, resVals, resVal, tupled, popRet, popTo, cond, Option.bind, Option.map, eNew, eBox, asCells, lenH, snocH, eFieldAddr, eField, eLoad, cellsAt, getH, setH, dropL, takeL, mkAgg, lenL, lenS, shift, shiftL, shiftH, viewN, viewL, view, andT, junks, List.append_nil, Nat.beq, eIdxAddr, eIdxArr, idxN_0, idxN_1, idxN_2, idxN_3, eIndex, eStore, storeAt, spliceL, ones, one, eSlice, eSliceArr, bounds, subLo_z, addLo_z, subLo_one, addLo_one, eMake, eAppend, readS, repL, buildCells, chunk, purgeL, purgeLL, purgeH, purge, refs, refsL, List.cons_append, List.nil_append, wrOps, wrAl, wrDops, wrC, junkAt, putAll, putHs, headOf, headK, keepG, List.append_eq, headX, chkP, apartP, apartB, blk, strip, runAl, AL.ho, yld, putPs, lenN, findR, notRound, jumpK, jumpPT, jcode, List.map_cons, List.map_nil, ite_self, reduceIte]
    simp only [true_and, and_true, imp_self, implies_true, decide_eq_true_eq, decide_eq_false_iff_not, Nat.reduceAdd, Nat.reduceLeDiff, Bool.not_not, reduceCtorEq, false_imp_iff, Bool.not_eq_true', Bool.not_eq_false', Bool.false_eq_true, and_self, forall_const, ne_eq, not_false_eq_true, Nat.reduceEqDiff]
    have h : k (.tup [natS false (a ^ e), .bool true]) [] := h
    refine ⟨by decide, a, 1, ⟨padP_nl (by omega), padP_nl (show nl 1 ≤ 100000 from Nat.le_trans (nl_le (n := 1).2 (by decide)) (by decide))⟩, fun hc => ?_, fun hc => ?_⟩
    · have ha1 : a ≤ 1 := by
        unfold ordN at hc
        split at hc
        · omega
        · split at hc <;> omega
      obtain ⟨K, hK⟩ : ∃ K : Nat, K = min e 1 := ⟨_, rfl⟩
      have hKv : a ^ K = a ^ e := by rw [hK]; exact pow_cut a e ha1
      have hKe : K ≤ e := by omega
      have hKi : min (e : Int) 1 = (K : Int) := by omega
      rw [hKi]
      refine Loop.keep [0, 0, 2, 0, 0, 0] Nat (fun i => [(6, .vs true false (nl (a ^ i)) 1 (fun k => [.int .u32 (dig (a ^ i) k)])), (7, .int .i64 i)]) (fun _ => []) [] (fun i => i ≤ K) (fun i => K - i) ?_ ?_
      · refine ⟨0, Nat.zero_le _, ?_⟩
        dsimp only [r_end, r_end1, r_nil, r_op, r_opg, r_runOp, r_op0, r_yld0, r_yld1, r_y, r_rbeg, r_rend, r_rend1, r_rfrm, r_rfrm1, r_range, r_rangeK, r_rangeE, r_draw, r_dnil, r_dop, r_dopg, r_dplq, r_dplh, r_dq, r_dq0, r_dcl1, r_dcl0, r_dct1, r_dct0, r_dgd, r_dgq1, r_dgq0, r_dctG, r_op1, r_eff, r_eff0, r_call, r_call0, r_inl, r_g, r_gq, r_gc, r_effg, r_effg0, r_callg, r_callg0, r_fin, r_pre, r_imp, r_all, r_ex, r_fing, r_preg, r_exg, r_inBlock, r_inLoop, r_frame, r_frame1, r_skip, r_stuck, r_region, r_seq, r_cond, r_cond1, r_block, r_exit, r_exit1, r_exit2, r_ret, r_loop, s_args0, s_args1, s_xt, s_xc, padL, blankL, callee, callArgs, eff, ctOf, getL, setL, S.put, S.upd, unopts, unopt, unoptsO, unoptsB, lazyO, guardOf, gbool, eMov, eNot, eNeg, eConv, eExt, eLenArr, eLen, eLenStr, eEqb, eEqv, allEq, eNil, negIf, eBool2, eCmp, eAri, ari, eBit, eDiv, eSh, eMinMax, foldMin, foldMax, kEq, pure1, cmpB, VO.quiet, resVals, resVal, tupled, popRet, popTo, cond, Option.bind, Option.map, eNew, eBox, asCells, lenH, snocH, eFieldAddr, eField, eLoad, cellsAt, getH, setH, dropL, takeL, mkAgg, lenL, lenS, shift, shiftL, shiftH, viewN, viewL, view, andT, junks, List.append_nil, Nat.beq, eIdxAddr, eIdxArr, idxN_0, idxN_1, idxN_2, idxN_3, eIndex, eStore, storeAt, spliceL, ones, one, eSlice, eSliceArr, bounds, subLo_z, addLo_z, subLo_one, addLo_one, eMake, eAppend, readS, repL, buildCells, chunk, purgeL, purgeLL, purgeH, purge, refs, refsL, List.cons_append, List.nil_append, wrOps, wrAl, wrDops, wrC, junkAt, putAll, putHs, headOf, headK, keepG, List.append_eq, headX, chkP, apartP, apartB, blk, strip, runAl, AL.ho, yld, putPs, lenN, findR, notRound, jumpK, jumpPT, jcode, List.map_cons, List.map_nil, ite_self, reduceIte]
        simp only [Nat.pow_zero, leS_mk, leL_cons, leL_nil, le_junk, le_int, le_bool, le_nil, leLL_nil, leLL_cons, leH_cons, leH_nil, leH1_box, leH1_own, leH1_gone, le_vs, le_agg, le_tup, le_ptr, le_own, le_xp, le_fn, le_opt, le_val, le_elem, le_nil_own, le_nil_vs, leH_ghost, leL_chunk, leXL_id, bnd_int, bnd_bool, bnd_val, bnd_nil, bnd_junk, bnd_vs, bnd_xp, bnd_agg, bnd_tup, bnd_ptr, bnd_own, bnd_elem, bnd_fn, bnd_iface, bnd_opt, bndL_nil, bndL_cons, lenH_cons, lenH_nil, imp_self, implies_true, true_and, and_true]
        simp
        exact fun k _ => leXL_self _
      · rintro i hi
        dsimp only [T0_ct71, timesC, natS, Int.toNat_natCast, r_end, r_end1, r_nil, r_op, r_opg, r_runOp, r_op0, r_yld0, r_yld1, r_y, r_rbeg, r_rend, r_rend1, r_rfrm, r_rfrm1, r_range, r_rangeK, r_rangeE, r_draw, r_dnil, r_dop, r_dopg, r_dplq, r_dplh, r_dq, r_dq0, r_dcl1, r_dcl0, r_dct1, r_dct0, r_dgd, r_dgq1, r_dgq0, r_dctG, r_op1, r_eff, r_eff0, r_call, r_call0, r_inl, r_g, r_gq, r_gc, r_effg, r_effg0, r_callg, r_callg0, r_fin, r_pre, r_imp, r_all, r_ex, r_fing, r_preg, r_exg, r_inBlock, r_inLoop, r_frame, r_frame1, r_skip, r_stuck, r_region, r_seq, r_cond, r_cond1, r_block, r_exit, r_exit1, r_exit2, r_ret, r_loop, s_args0, s_args1, s_xt, s_xc, padL, blankL, callee, callArgs, eff, ctOf, getL, setL, S.put, S.upd, unopts, unopt, unoptsO, unoptsB, lazyO, guardOf, gbool, eMov, eNot, eNeg, eConv, eExt, eLenArr, eLen, eLenStr, eEqb, eEqv, allEq, eNil, negIf, eBool2, eCmp, eAri, ari, eBit, eDiv, eSh, eMinMax, foldMin, foldMax, kEq, pure1, cmpB, VO.quiet, resVals, resVal, tupled, popRet, popTo, cond, Option.bind, Option.map, eNew, eBox, asCells, lenH, snocH, eFieldAddr, eField, eLoad, cellsAt, getH, setH, dropL, takeL, mkAgg, lenL, lenS, shift, shiftL, shiftH, viewN, viewL, view, andT, junks, List.append_nil, Nat.beq, eIdxAddr, eIdxArr, idxN_0, idxN_1, idxN_2, idxN_3, eIndex, eStore, storeAt, spliceL, ones, one, eSlice, eSliceArr, bounds, subLo_z, addLo_z, subLo_one, addLo_one, eMake, eAppend, readS, repL, buildCells, chunk, purgeL, purgeLL, purgeH, purge, refs, refsL, List.cons_append, List.nil_append, wrOps, wrAl, wrDops, wrC, junkAt, putAll, putHs, headOf, headK, keepG, List.append_eq, headX, chkP, apartP, apartB, blk, strip, runAl, AL.ho, yld, putPs, lenN, findR, notRound, jumpK, jumpPT, jcode, List.map_cons, List.map_nil, ite_self, reduceIte]
        simp only [true_and, and_true, imp_self, implies_true, decide_eq_true_eq, decide_eq_false_iff_not, Nat.reduceAdd, Nat.reduceLeDiff, Bool.not_not, reduceCtorEq, false_imp_iff, Bool.not_eq_true', Bool.not_eq_false', Bool.false_eq_true, and_self, forall_const, ne_eq, not_false_eq_true, Nat.reduceEqDiff]
        have hf1 := pow_fits hfit (show i ≤ e by omega)
        refine ⟨fun hlt => ⟨a ^ i, a, ⟨padP_nl (by omega), padP_nl (by omega), by omega⟩, fun hb => ?_, fun hb => ?_⟩, fun hge => ?_⟩
        · exfalso
          have hf2 := pow_fits hfit (show i + 1 ≤ e by omega)
          rw [Nat.pow_succ] at hf2; omega
        · refine ⟨i + 1, by omega, by omega, ?_⟩
          have hw : IntKind.i64.wrap ((i : Int) + 1) = ((i + 1 : Nat) : Int) := by rw [IntWalk.i64_in _ (by omega)]; omega
          simp only [hw, Nat.pow_succ, leS_mk, leL_cons, leL_nil, le_junk, le_int, le_bool, le_nil, leLL_nil, leLL_cons, leH_cons, leH_nil, leH1_box, leH1_own, leH1_gone, le_vs, le_agg, le_tup, le_ptr, le_own, le_xp, le_fn, le_opt, le_val, le_elem, le_nil_own, le_nil_vs, leH_ghost, leL_chunk, leXL_id, bnd_int, bnd_bool, bnd_val, bnd_nil, bnd_junk, bnd_vs, bnd_xp, bnd_agg, bnd_tup, bnd_ptr, bnd_own, bnd_elem, bnd_fn, bnd_iface, bnd_opt, bndL_nil, bndL_cons, lenH_cons, lenH_nil, imp_self, implies_true, true_and, and_true]
        · obtain rfl : i = K := by omega
          rw [hKv]
          exact ans_nb h
    · obtain ⟨K, hK⟩ : ∃ K : Nat, K = e := ⟨_, rfl⟩
      have hKv : a ^ K = a ^ e := by rw [hK]
      have hKe : K ≤ e := by omega
      have hKi : (e : Int) = (K : Int) := by omega
      rw [hKi]
      refine Loop.keep [0, 0, 2, 0, 0, 0] Nat (fun i => [(6, .vs true false (nl (a ^ i)) 1 (fun k => [.int .u32 (dig (a ^ i) k)])), (7, .int .i64 i)]) (fun _ => []) [] (fun i => i ≤ K) (fun i => K - i) ?_ ?_
      · refine ⟨0, Nat.zero_le _, ?_⟩
        dsimp only [r_end, r_end1, r_nil, r_op, r_opg, r_runOp, r_op0, r_yld0, r_yld1, r_y, r_rbeg, r_rend, r_rend1, r_rfrm, r_rfrm1, r_range, r_rangeK, r_rangeE, r_draw, r_dnil, r_dop, r_dopg, r_dplq, r_dplh, r_dq, r_dq0, r_dcl1, r_dcl0, r_dct1, r_dct0, r_dgd, r_dgq1, r_dgq0, r_dctG, r_op1, r_eff, r_eff0, r_call, r_call0, r_inl, r_g, r_gq, r_gc, r_effg, r_effg0, r_callg, r_callg0, r_fin, r_pre, r_imp, r_all, r_ex, r_fing, r_preg, r_exg, r_inBlock, r_inLoop, r_frame, r_frame1, r_skip, r_stuck, r_region, r_seq, r_cond, r_cond1, r_block, r_exit, r_exit1, r_exit2, r_ret, r_loop, s_args0, s_args1, s_xt, s_xc, padL, blankL, callee, callArgs, eff, ctOf, getL, setL, S.put, S.upd, unopts, unopt, unoptsO, unoptsB, lazyO, guardOf, gbool, eMov, eNot, eNeg, eConv, eExt, eLenArr, eLen, eLenStr, eEqb, eEqv, allEq, eNil, negIf, eBool2, eCmp, eAri, ari, eBit, eDiv, eSh, eMinMax, foldMin, foldMax, kEq, pure1, cmpB, VO.quiet, resVals, resVal, tupled, popRet, popTo, cond, Option.bind, Option.map, eNew, eBox, asCells, lenH, snocH, eFieldAddr, eField, eLoad, cellsAt, getH, setH, dropL, takeL, mkAgg, lenL, lenS, shift, shiftL, shiftH, viewN, viewL, view, andT, junks, List.append_nil, Nat.beq, eIdxAddr, eIdxArr, idxN_0, idxN_1, idxN_2, idxN_3, eIndex, eStore, storeAt, spliceL, ones, one, eSlice, eSliceArr, bounds, subLo_z, addLo_z, subLo_one, addLo_one, eMake, eAppend, readS, repL, buildCells, chunk, purgeL, purgeLL, purgeH, purge, refs, refsL, List.cons_append, List.nil_append, wrOps, wrAl, wrDops, wrC, junkAt, putAll, putHs, headOf, headK, keepG, List.append_eq, headX, chkP, apartP, apartB, blk, strip, runAl, AL.ho, yld, putPs, lenN, findR, notRound, jumpK, jumpPT, jcode, List.map_cons, List.map_nil, ite_self, reduceIte]
        simp only [Nat.pow_zero, leS_mk, leL_cons, leL_nil, le_junk, le_int, le_bool, le_nil, leLL_nil, leLL_cons, leH_cons, leH_nil, leH1_box, leH1_own, leH1_gone, le_vs, le_agg, le_tup, le_ptr, le_own, le_xp, le_fn, le_opt, le_val, le_elem, le_nil_own, le_nil_vs, leH_ghost, leL_chunk, leXL_id, bnd_int, bnd_bool, bnd_val, bnd_nil, bnd_junk, bnd_vs, bnd_xp, bnd_agg, bnd_tup, bnd_ptr, bnd_own, bnd_elem, bnd_fn, bnd_iface, bnd_opt, bndL_nil, bndL_cons, lenH_cons, lenH_nil, imp_self, implies_true, true_and, and_true]
        simp
        exact fun k _ => leXL_self _
      · rintro i hi
        dsimp only [T0_ct71, timesC, natS, Int.toNat_natCast, r_end, r_end1, r_nil, r_op, r_opg, r_runOp, r_op0, r_yld0, r_yld1, r_y, r_rbeg, r_rend, r_rend1, r_rfrm, r_rfrm1, r_range, r_rangeK, r_rangeE, r_draw, r_dnil, r_dop, r_dopg, r_dplq, r_dplh, r_dq, r_dq0, r_dcl1, r_dcl0, r_dct1, r_dct0, r_dgd, r_dgq1, r_dgq0, r_dctG, r_op1, r_eff, r_eff0, r_call, r_call0, r_inl, r_g, r_gq, r_gc, r_effg, r_effg0, r_callg, r_callg0, r_fin, r_pre, r_imp, r_all, r_ex, r_fing, r_preg, r_exg, r_inBlock, r_inLoop, r_frame, r_frame1, r_skip, r_stuck, r_region, r_seq, r_cond, r_cond1, r_block, r_exit, r_exit1, r_exit2, r_ret, r_loop, s_args0, s_args1, s_xt, s_xc, padL, blankL, callee, callArgs, eff, ctOf, getL, setL, S.put, S.upd, unopts, unopt, unoptsO, unoptsB, lazyO, guardOf, gbool, eMov, eNot, eNeg, eConv, eExt, eLenArr, eLen, eLenStr, eEqb, eEqv, allEq, eNil, negIf, eBool2, eCmp, eAri, ari, eBit, eDiv, eSh, eMinMax, foldMin, foldMax, kEq, pure1, cmpB, VO.quiet, resVals, resVal, tupled, popRet, popTo, cond, Option.bind, Option.map, eNew, eBox, asCells, lenH, snocH, eFieldAddr, eField, eLoad, cellsAt, getH, setH, dropL, takeL, mkAgg, lenL, lenS, shift, shiftL, shiftH, viewN, viewL, view, andT, junks, List.append_nil, Nat.beq, eIdxAddr, eIdxArr, idxN_0, idxN_1, idxN_2, idxN_3, eIndex, eStore, storeAt, spliceL, ones, one, eSlice, eSliceArr, bounds, subLo_z, addLo_z, subLo_one, addLo_one, eMake, eAppend, readS, repL, buildCells, chunk, purgeL, purgeLL, purgeH, purge, refs, refsL, List.cons_append, List.nil_append, wrOps, wrAl, wrDops, wrC, junkAt, putAll, putHs, headOf, headK, keepG, List.append_eq, headX, chkP, apartP, apartB, blk, strip, runAl, AL.ho, yld, putPs, lenN, findR, notRound, jumpK, jumpPT, jcode, List.map_cons, List.map_nil, ite_self, reduceIte]
        simp only [true_and, and_true, imp_self, implies_true, decide_eq_true_eq, decide_eq_false_iff_not, Nat.reduceAdd, Nat.reduceLeDiff, Bool.not_not, reduceCtorEq, false_imp_iff, Bool.not_eq_true', Bool.not_eq_false', Bool.false_eq_true, and_self, forall_const, ne_eq, not_false_eq_true, Nat.reduceEqDiff]
        have hf1 := pow_fits hfit (show i ≤ e by omega)
        refine ⟨fun hlt => ⟨a ^ i, a, ⟨padP_nl (by omega), padP_nl (by omega), by omega⟩, fun hb => ?_, fun hb => ?_⟩, fun hge => ?_⟩
        · exfalso
          have hf2 := pow_fits hfit (show i + 1 ≤ e by omega)
          rw [Nat.pow_succ] at hf2; omega
        · refine ⟨i + 1, by omega, by omega, ?_⟩
          have hw : IntKind.i64.wrap ((i : Int) + 1) = ((i + 1 : Nat) : Int) := by rw [IntWalk.i64_in _ (by omega)]; omega
          simp only [hw, Nat.pow_succ, leS_mk, leL_cons, leL_nil, le_junk, le_int, le_bool, le_nil, leLL_nil, leLL_cons, leH_cons, leH_nil, leH1_box, leH1_own, leH1_gone, le_vs, le_agg, le_tup, le_ptr, le_own, le_xp, le_fn, le_opt, le_val, le_elem, le_nil_own, le_nil_vs, leH_ghost, leL_chunk, leXL_id, bnd_int, bnd_bool, bnd_val, bnd_nil, bnd_junk, bnd_vs, bnd_xp, bnd_agg, bnd_tup, bnd_ptr, bnd_own, bnd_elem, bnd_fn, bnd_iface, bnd_opt, bndL_nil, bndL_cons, lenH_cons, lenH_nil, imp_self, implies_true, true_and, and_true]
        · obtain rfl : i = K := by omega
          rw [hKv]
          exact ans_nb h
  · exact h.1.elim

theorem pow_sgn (neg : Bool) (a e : Nat) : (nsg neg a) ^ e = nsg (neg && decide (e % 2 = 1)) (a ^ e) := by
  cases neg
  · simp [nsg]
  · simp only [nsg, if_true, Bool.true_and]
    induction e with
    | zero => simp
    | succ e ih =>
      rw [Int.pow_succ, ih]
      rcases Nat.mod_two_eq_zero_or_one e with h | h
      · have h2 : (e + 1) % 2 = 1 := by omega
        simp [h, h2, Nat.pow_succ, Int.mul_neg, Int.neg_mul, Int.neg_mul_neg]
      · have h2 : (e + 1) % 2 = 0 := by omega
        simp [h, h2, Nat.pow_succ, Int.mul_neg, Int.neg_mul, Int.neg_mul_neg]
theorem q_pow {p : Fr} (hp : 0 < p.2) (e : Nat) : rnum (nsg (decide (p.1 < 0) && decide (e % 2 = 1)) (rnum p.1 p.2 ^ e)) (rden p.1 p.2 ^ e) = rnum (p.1 ^ e) (p.2 ^ e) ∧ rden (nsg (decide (p.1 < 0) && decide (e % 2 = 1)) (rnum p.1 p.2 ^ e)) (rden p.1 p.2 ^ e) = rden (p.1 ^ e) (p.2 ^ e) ∧ decide (nsg (decide (p.1 < 0) && decide (e % 2 = 1)) (rnum p.1 p.2 ^ e) < 0) = decide (p.1 ^ e < 0) := by
  have hg : 0 < fg p.1 p.2 ^ e := Nat.pow_pos (fg_pos hp)
  have e1 : p.1 ^ e = nsg (decide (p.1 < 0) && decide (e % 2 = 1)) (rnum p.1 p.2 ^ e) * ((fg p.1 p.2 ^ e : Nat) : Int) := by
    conv => lhs; rw [n_eq p.1 p.2, Int.mul_pow, pow_sgn]
    rw [Int.natCast_pow]
  have e2 : p.2 ^ e = rden p.1 p.2 ^ e * fg p.1 p.2 ^ e := by
    conv => lhs; rw [← rden_mul p.1 p.2, Nat.mul_pow]
  have r := r_scale (n := nsg (decide (p.1 < 0) && decide (e % 2 = 1)) (rnum p.1 p.2 ^ e)) (d := rden p.1 p.2 ^ e) hg
  rw [← e1, ← e2] at r
  exact ⟨r.1.symm, r.2.1.symm, r.2.2.symm⟩

def qpowC : Ctr := { alias := false, of := fun l => match l with
  | [.agg [.bool neg, .vs _ z1 n1 s1 g1, .vs _ z2 n2 s2 g2], .int .i64 k] => .ex Fr fun p => .ex Nat fun e => .pre (fracP p neg z1 n1 s1 g1 z2 n2 s2 g2 ∧ k = (e : Int) ∧ e ≤ 2000 ∧ nl (rnum p.1 p.2 ^ e) ≤ 512 ∧ nl (rden p.1 p.2 ^ e) ≤ 512) (.fin (.tup [.agg (encF true (p.1 ^ e, p.2 ^ e)), .int .i64 0]) [])
  | _ => noC }

def T1 : Env := { ct := fun n => match n with | 69 => some badqC | 75 => some powerC | 70 => some lowestC | _ => none, fn := fun _ => none, meth := fun _ _ => none }
theorem T1_ct69 : T1.ct 69 = some badqC := rfl
theorem T1_ct75 : T1.ct 75 = some powerC := rfl
theorem T1_ct70 : T1.ct 70 = some lowestC := rfl
theorem T1_ok : EnvOk Try.prog T1 := by
  refine ⟨fun f c h => ?_, fun f vf h => ?_, fun _ _ => rfl, by kernel_rfl⟩
  · simp only [T1] at h
    split at h
    · cases h; exact ⟨badq_ok, Try.f69, Try.func69, by kernel_rfl, by kernel_rfl⟩
    · cases h; exact ⟨power_ok, Try.f75, Try.func75, by kernel_rfl, by kernel_rfl⟩
    · cases h; exact ⟨lowest_ok, Try.f70, Try.func70, by kernel_rfl, by kernel_rfl⟩
    · cases h
  · cases h


theorem qpow_ok : qpowC.ok Try.prog 52 := by
  refine contract Try.func52 v52_is T1_ok 300 qpowC fun args k h => ?_
  simp only [qpowC] at h
  split at h
  · rename_i neg t1 z1 n1 s1 g1 t2 z2 n2 s2 g2 k'
    obtain ⟨p, e, ⟨hp, rfl, he, hfn, hfd⟩, h⟩ := h
    refine ⟨[.agg (encF false p), .int .i64 e], ⟨fr_le hp, ⟨rfl, rfl⟩, trivial⟩, ?_⟩
    have hok := hp.1
    clear hp
    dsimp only [v52, T1_ct69, T1_ct75, T1_ct70, badqC, powerC, lowestC, natS, natV, encF, r_end, r_end1, r_nil, r_op, r_opg, r_runOp, r_op0, r_yld0, r_yld1, r_y, r_rbeg, r_rend, r_rend1, r_rfrm, r_rfrm1, r_range, r_rangeK, r_rangeE, r_draw, r_dnil, r_dop, r_dopg, r_dplq, r_dplh, r_dq, r_dq0, r_dcl1, r_dcl0, r_dct1, r_dct0, r_dgd, r_dgq1, r_dgq0, r_dctG, r_op1, r_eff, r_eff0, r_call, r_call0, r_inl, r_g, r_gq, r_gc, r_effg, r_effg0, r_callg, r_callg0, r_fin, r_pre, r_imp, r_all, r_ex, r_fing, r_preg, r_exg, r_inBlock, r_inLoop, r_frame, r_frame1, r_skip, r_stuck, r_region, r_seq, r_cond, r_cond1, r_block, r_exit, r_exit1, r_exit2, r_ret, r_loop, s_args0, s_args1, s_xt, s_xc, padL, blankL, callee, callArgs, eff, ctOf, getL, setL, S.put, S.upd, unopts, unopt, unoptsO, unoptsB, lazyO, guardOf, gbool, eMov, eNot, eNeg, eConv, eExt, eLenArr, eLen, eLenStr, eEqb, eEqv, allEq, eNil, negIf, eBool2, eCmp, eAri, ari, eBit, eDiv, eSh, eMinMax, foldMin, foldMax, kEq, pure1, cmpB, VO.quiet, resVals, resVal, tupled, popRet, popTo, cond, Option.bind, Option.map, eNew, eBox, asCells, lenH, snocH, eFieldAddr, eField, eLoad, cellsAt, getH, setH, dropL, takeL, mkAgg, lenL, lenS, shift, shiftL, shiftH, viewN, viewL, view, andT, junks, List.append_nil, Nat.beq, eIdxAddr, eIdxArr, idxN_0, idxN_1, idxN_2, idxN_3, eIndex, eStore, storeAt, spliceL, ones, one, eSlice, eSliceArr, bounds, subLo_z, addLo_z, subLo_one, addLo_one, eMake, eAppend, readS, repL, buildCells, chunk, purgeL, purgeLL, purgeH, purge, refs, refsL, List.cons_append, List.nil_append, wrOps, wrAl, wrDops, wrC, junkAt, putAll, putHs, headOf, headK, keepG, List.append_eq, headX, chkP, apartP, apartB, blk, strip, runAl, AL.ho, yld, putPs, lenN, findR, notRound, jumpK, jumpPT, jcode, List.map_cons, List.map_nil, ite_self, reduceIte]
    simp only [true_and, and_true, imp_self, implies_true, decide_eq_true_eq, decide_eq_false_iff_not, Nat.reduceAdd, Nat.reduceLeDiff, Bool.not_not, reduceCtorEq, false_imp_iff, Bool.not_eq_true', Bool.not_eq_false', Bool.false_eq_true, and_self, forall_const, ne_eq, not_false_eq_true, Nat.reduceEqDiff, decide_true, decide_false, Bool.and_true, Bool.true_and, Bool.and_false, Bool.false_and, Bool.not_true, Bool.not_false, Bool.or_false, Bool.false_or, Bool.or_true, Bool.true_or, Bool.and_self, Bool.or_self, Bool.false_eq_true, Bool.true_eq_false, false_imp_iff, forall_const, true_and, and_true, implies_true, reduceCtorEq, not_true_eq_false, not_false_eq_true, ite_true, ite_false]
    have h : k (.tup [.agg (encF true (p.1 ^ e, p.2 ^ e)), .int .i64 0]) [] := h
    have hn : IntKind.i64.wrap (0 - (e : Int)) = -(e : Int) := by rw [IntWalk.i64_in _ (by omega)]; omega
    have hm : max (e : Int) (-(e : Int)) = (e : Int) := by omega
    simp only [hn, hm]
    refine ⟨by decide, [p], ⟨⟨rfl, rfl, fun k hk => match k, hk with | 0, _ => leXL_self (encF false p)⟩, by simp, list1 hok⟩, fun hb => ?_, fun hb => ?_⟩
    · exfalso; simp only [Bool.or_eq_true, decide_eq_true_eq] at hb; omega
    · refine ⟨fun hb2 => ?_, fun hb2 => ?_⟩
      · exfalso; simp only [Bool.and_eq_true, decide_eq_true_eq] at hb2; omega
      · have hev : (!decide ((e : Int).tmod 2 = 0)) = decide (e % 2 = 1) := by
          have e2 : (e : Int).tmod 2 = ((e % 2 : Nat) : Int) := IntWalk.up_tmod (y := 2) rfl rfl
          rw [e2, Bool.eq_iff_iff, Bool.not_eq_true', decide_eq_false_iff_not, decide_eq_true_eq]; omega
        simp only [hev]
        have ⟨hp0, hp1, hp2⟩ := hok
        have hd : 0 < rden p.1 p.2 ^ e := Nat.pow_pos (rden_pos hp0)
        have hM : frOk (nsg (decide (p.1 < 0) && decide (e % 2 = 1)) (rnum p.1 p.2 ^ e), rden p.1 p.2 ^ e) := by
          refine ⟨hd, Nat.le_trans (nl_mono (rnum_le _ _)) ?_, Nat.le_trans (nl_mono (rden_le _ _)) hfd⟩
          dsimp only; rw [nsg_abs]; exact hfn
        refine ⟨fun hneg => by exfalso; omega, fun _ => ⟨rnum p.1 p.2, e, ⟨padP_nl (by omega), rfl, rfl, by omega, hp1, hfn⟩, by decide, by decide, rden p.1 p.2, e, ⟨padP_nl (by omega), rfl, rfl, by omega, hp2, hfd⟩, by decide, by decide, fun _ => by decide,
          rnum p.1 p.2 ^ e, rden p.1 p.2 ^ e, ⟨padP_nl (by omega), rfl, padP_nl (by omega), rfl, hd, by omega, by omega, hM⟩, by decide, by decide, ?_⟩⟩
        have eq := encF_eq (t := true) (p := (nsg (decide (p.1 < 0) && decide (e % 2 = 1)) (rnum p.1 p.2 ^ e), rden p.1 p.2 ^ e)) (q := (p.1 ^ e, p.2 ^ e)) (q_pow hp0 e)
        rw [← eq] at h
        exact ans_fr h
  · exact h.1.elim
end Go.Proofs.Ytdognchniaojoaa
