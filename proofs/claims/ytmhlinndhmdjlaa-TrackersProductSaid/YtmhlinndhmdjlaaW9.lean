/- Trackers: the law of products, walked. -/
import Derived.Test.YtmhlinndhmdjlaaW7
import Derived.Test.YtmhlinndhmdjlaaS6
set_option linter.all false
namespace Go.Proofs.Ytmhlinndhmdjlaa
open Go Go.Vx
set_option maxRecDepth 100000
set_option maxHeartbeats 4000000

def v6 : VF := { ntmps := 108, res := [.tmp 4], body :=
 (.seq (.region [⟨(some 2), none, .box, [.tm 0]⟩,
  ⟨(some 4), none, .mov, [.cn (.bool false)]⟩])
 (.seq (.seq (.region [⟨(some 13), none, (.load true 3), [.tm 2]⟩,
  ⟨(some 14), none, (.call 14), [.tm 13]⟩,
  ⟨(some 15), none, (.cmp .neq), [.tm 14, .cn (.int .i64 0)]⟩,
  ⟨(some 16), none, .mov, [.tm 15]⟩,
  ⟨(some 17), (some (16, false)), .mov, [.tm 1]⟩,
  ⟨(some 18), (some (16, false)), (.cmp .lss), [.tm 17, .cn (.int .i64 0)]⟩,
  ⟨(some 19), none, .or, [.tm 16, .tm 18]⟩,
  ⟨(some 20), none, .mov, [.tm 19]⟩,
  ⟨(some 21), (some (20, false)), .mov, [.tm 1]⟩,
  ⟨(some 22), (some (20, false)), (.cmp .gtr), [.tm 21, .cn (.int .i64 50000)]⟩,
  ⟨(some 23), none, .or, [.tm 20, .tm 22]⟩])
 (.cond (.tm 23) (.seq (.region [⟨(some 24), none, (.call 8), []⟩,
  ⟨(some 4), none, .mov, [.tm 24]⟩])
 .ret)
  .skip))
 (.seq (.region [⟨(some 25), none, (.fieldAddr 1), [.tm 2]⟩,
  ⟨(some 26), none, (.load false 1), [.tm 25]⟩,
  ⟨(some 27), none, (.fieldAddr 2), [.tm 2]⟩,
  ⟨(some 28), none, (.load false 1), [.tm 27]⟩,
  ⟨(some 29), none, (.build [.nil, (.int .i64 0), (.int .i64 0)] [(1, 1), (2, 1)]), [.tm 26, .tm 28]⟩,
  ⟨(some 5), none, (.alloc [.nil, (.int .i64 0), (.int .i64 0)]), []⟩,
  ⟨none, none, (.store 3), [.tm 5, .tm 29]⟩])
 (.seq (.region [⟨(some 6), none, .mov, [.cn (.int .i64 1)]⟩,
  ⟨(some 7), none, .mov, [.cn (.int .i64 1)]⟩])
 (.seq (.seq (.region [⟨(some 8), none, .mov, [.cn (.int .i64 0)]⟩])
 (.block 0 (.loop (.seq (.seq (.region [⟨(some 30), none, .mov, [.tm 8]⟩,
  ⟨(some 31), none, (.fieldAddr 0), [.tm 2]⟩,
  ⟨(some 32), none, (.load false 1), [.tm 31]⟩,
  ⟨(some 33), none, .len, [.tm 32]⟩,
  ⟨(some 34), none, (.cmp .lss), [.tm 30, .tm 33]⟩])
 (.cond (.tm 34) .skip
  (.exit 0)))
 (.seq (.block 1 (.seq (.draw [] [⟨⟨(some 37), none, (.fieldAddr 0), [.tm 5]⟩, []⟩,
  ⟨⟨(some 38), none, (.load false 1), [.tm 37]⟩, []⟩,
  ⟨⟨(some 39), none, (.fieldAddr 0), [.tm 2]⟩, []⟩,
  ⟨⟨(some 40), none, (.load false 1), [.tm 39]⟩, []⟩,
  ⟨⟨(some 41), none, .mov, [.tm 8]⟩, []⟩,
  ⟨⟨(some 42), none, (.idxAddr 4), [.tm 40, .tm 41]⟩, []⟩,
  ⟨⟨(some 43), none, (.fieldAddr 0), [.tm 42]⟩, []⟩,
  ⟨⟨(some 44), none, (.load false 1), [.tm 43]⟩, []⟩,
  ⟨⟨(some 45), none, (.fieldAddr 0), [.tm 2]⟩, []⟩,
  ⟨⟨(some 46), none, (.load false 1), [.tm 45]⟩, []⟩,
  ⟨⟨(some 47), none, .mov, [.tm 8]⟩, []⟩,
  ⟨⟨(some 48), none, (.idxAddr 4), [.tm 46, .tm 47]⟩, []⟩,
  ⟨⟨(some 49), none, (.fieldAddr 1), [.tm 48]⟩, []⟩,
  ⟨⟨(some 50), none, (.load false 1), [.tm 49]⟩, []⟩,
  ⟨⟨(some 51), none, (.build [(.int .i64 0), (.int .i64 0), (.int .i64 0), (.int .i64 0)] [(0, 1), (1, 1)]), [.tm 44, .tm 50]⟩, []⟩,
  ⟨⟨(some 52), none, (.buildSlice 4 1 [(.int .i64 0), (.int .i64 0), (.int .i64 0), (.int .i64 0)] [(0, 4)]), [.tm 51]⟩, []⟩,
  ⟨⟨(some 53), none, (.append 4 32 [(.int .i64 0), (.int .i64 0), (.int .i64 0), (.int .i64 0)]), [.tm 38, .tm 52]⟩, []⟩,
  ⟨⟨(some 54), none, (.fieldAddr 0), [.tm 5]⟩, []⟩,
  ⟨⟨none, none, (.store 1), [.tm 54, .tm 53]⟩, []⟩])
 (.draw [] [⟨⟨(some 55), none, .mov, [.tm 6]⟩, []⟩,
  ⟨⟨(some 56), none, (.fieldAddr 0), [.tm 2]⟩, []⟩,
  ⟨⟨(some 57), none, (.load false 1), [.tm 56]⟩, []⟩,
  ⟨⟨(some 58), none, .mov, [.tm 8]⟩, []⟩,
  ⟨⟨(some 59), none, (.idxAddr 4), [.tm 57, .tm 58]⟩, []⟩,
  ⟨⟨(some 60), none, (.fieldAddr 0), [.tm 59]⟩, []⟩,
  ⟨⟨(some 61), none, (.load false 1), [.tm 60]⟩, []⟩,
  ⟨⟨(some 62), none, (.ari .mul), [.tm 55, .tm 61]⟩, []⟩,
  ⟨⟨(some 63), none, .mov, [.tm 7]⟩, []⟩,
  ⟨⟨(some 64), none, (.fieldAddr 0), [.tm 2]⟩, []⟩,
  ⟨⟨(some 65), none, (.load false 1), [.tm 64]⟩, []⟩,
  ⟨⟨(some 66), none, .mov, [.tm 8]⟩, []⟩,
  ⟨⟨(some 67), none, (.idxAddr 4), [.tm 65, .tm 66]⟩, []⟩,
  ⟨⟨(some 68), none, (.fieldAddr 1), [.tm 67]⟩, []⟩,
  ⟨⟨(some 69), none, (.load false 1), [.tm 68]⟩, []⟩,
  ⟨⟨(some 70), none, (.ari .mul), [.tm 63, .tm 69]⟩, []⟩,
  ⟨⟨(some 6), none, .mov, [.tm 62]⟩, []⟩,
  ⟨⟨(some 7), none, .mov, [.tm 70]⟩, []⟩])))
 (.region [⟨(some 35), none, .mov, [.tm 8]⟩,
  ⟨(some 36), none, (.ari .add), [.tm 35, .cn (.int .i64 1)]⟩,
  ⟨(some 8), none, .mov, [.tm 36]⟩]))))))
 (.seq (.region [⟨(some 72), none, (.load true 3), [.tm 5]⟩,
  ⟨(some 73), none, .mov, [.tm 1]⟩,
  ⟨(some 74), none, (.call 9), [.tm 72, .cn (.int .i64 0), .tm 73]⟩,
  ⟨(some 71), none, .mov, [.tm 74]⟩,
  ⟨(some 75), none, (.ext 0), [.tm 71]⟩,
  ⟨(some 76), none, (.ext 1), [.tm 71]⟩,
  ⟨(some 9), none, (.alloc [(.int .i64 0), (.int .i64 0)]), []⟩,
  ⟨none, none, (.store 2), [.tm 9, .tm 75]⟩,
  ⟨(some 10), none, .mov, [.tm 76]⟩])
 (.seq (.region [⟨(some 78), none, (.load true 3), [.tm 5]⟩,
  ⟨(some 79), none, (.call 19), [.tm 78]⟩,
  ⟨(some 77), none, .mov, [.tm 79]⟩,
  ⟨(some 80), none, (.ext 0), [.tm 77]⟩,
  ⟨(some 81), none, (.ext 1), [.tm 77]⟩,
  ⟨(some 11), none, (.alloc [(.int .i64 0), (.int .i64 0)]), []⟩,
  ⟨none, none, (.store 2), [.tm 11, .tm 80]⟩,
  ⟨(some 12), none, .mov, [.tm 81]⟩])
 (.seq (.region [⟨(some 82), none, .mov, [.tm 10]⟩,
  ⟨(some 83), none, (.cmp .eql), [.tm 82, .cn (.int .i64 0)]⟩,
  ⟨(some 84), none, .mov, [.tm 83]⟩,
  ⟨(some 85), (some (84, true)), .mov, [.tm 12]⟩,
  ⟨(some 86), (some (84, true)), (.cmp .eql), [.tm 85, .cn (.int .i64 0)]⟩,
  ⟨(some 87), none, .and, [.tm 84, .tm 86]⟩,
  ⟨(some 88), none, .mov, [.tm 87]⟩,
  ⟨(some 89), (some (88, true)), (.load true 2), [.tm 9]⟩,
  ⟨(some 90), (some (88, true)), .mov, [.tm 1]⟩,
  ⟨(some 91), (some (88, true)), .mov, [.tm 6]⟩,
  ⟨(some 92), (some (88, true)), (.ari .mul), [.tm 90, .tm 91]⟩,
  ⟨(some 93), (some (88, true)), .mov, [.tm 7]⟩,
  ⟨(some 94), (some (88, true)), (.call 20), [.tm 89, .tm 92, .tm 93]⟩,
  ⟨(some 95), none, .and, [.tm 88, .tm 94]⟩,
  ⟨(some 96), none, .mov, [.tm 95]⟩,
  ⟨(some 97), (some (96, true)), (.load true 2), [.tm 11]⟩,
  ⟨(some 98), (some (96, true)), (.fieldAddr 1), [.tm 2]⟩,
  ⟨(some 99), (some (96, true)), (.load false 1), [.tm 98]⟩,
  ⟨(some 100), (some (96, true)), .mov, [.tm 6]⟩,
  ⟨(some 101), (some (96, true)), (.ari .mul), [.tm 99, .tm 100]⟩,
  ⟨(some 102), (some (96, true)), .mov, [.tm 7]⟩,
  ⟨(some 103), (some (96, true)), (.call 20), [.tm 97, .tm 101, .tm 102]⟩,
  ⟨(some 104), none, .and, [.tm 96, .tm 103]⟩,
  ⟨(some 105), none, .mov, [.tm 104]⟩,
  ⟨(some 106), (some (105, true)), (.call 8), []⟩,
  ⟨(some 107), none, .and, [.tm 105, .tm 106]⟩,
  ⟨(some 4), none, .mov, [.tm 107]⟩])
 .ret)))))))) }
theorem v6_is : vfunc Try.prog Try.f6 = some v6 := by kernel_rfl


def L0 : Env := { ct := fun n => match n with | 8 => some trueC | _ => none, fn := fun _ => none, meth := fun _ _ => none }
theorem L0_ct8 : L0.ct 8 = some trueC := rfl
theorem L0_ok : EnvOk Try.prog L0 := by
  refine ⟨fun f c h => ?_, fun f vf h => ?_, fun _ _ => rfl, by kernel_rfl⟩
  · simp only [L0] at h
    split at h
    · cases h; exact ⟨shown8, Try.f8, Try.func8, by kernel_rfl, by kernel_rfl⟩
    · cases h
  · cases h


def exaC : Ctr := { alias := false, of := fun l => match l with
  | [.agg [.int .i64 a, .int .i64 b], .int .i64 n, .int .i64 d] => .fin (.bool (exF a b n d)) []
  | _ => noC }

theorem exact20 : exaC.ok Try.prog 20 := by
  refine contract Try.func20 v20_is L0_ok 200 exaC fun args k h => ⟨args, ?_⟩
  simp only [exaC] at h
  split at h
  · refine ⟨by simp [leL, le], ?_⟩
    dsimp only [v20, r_end, r_end1, r_nil, r_op, r_opg, r_runOp, r_op0, r_yld0, r_yld1, r_y, r_rbeg, r_rend, r_rend1, r_rfrm, r_rfrm1, r_range, r_rangeK, r_rangeE, r_draw, r_dnil, r_dop, r_dopg, r_dplq, r_dplh, r_dq, r_dq0, r_dcl1, r_dcl0, r_dct1, r_dct0, r_dgd, r_dgq1, r_dgq0, r_dctG, r_op1, r_eff, r_eff0, r_call, r_call0, r_inl, r_g, r_gq, r_gc, r_effg, r_effg0, r_callg, r_callg0, r_fin, r_pre, r_imp, r_all, r_ex, r_fing, r_preg, r_exg, r_inBlock, r_inLoop, r_frame, r_frame1, r_skip, r_region, r_seq, r_cond, r_cond1, r_block, r_exit, r_exit1, r_exit2, r_ret, r_loop, s_args0, s_args1, s_xt, s_xc, padL, blankL, callee, callArgs, eff, ctOf, getL, setL, S.put, S.upd, unopts, unopt, unoptsO, unoptsB, lazyO, guardOf, gbool, eMov, eNot, eNeg, eConv, eExt, eLenArr, eLen, eLenStr, eEqb, eEqv, allEq, eNil, negIf, eBool2, eCmp, eAri, ari, eBit, eDiv, eSh, eMinMax, foldMin, foldMax, kEq, pure1, cmpB, VO.quiet, resVals, resVal, tupled, popRet, popTo, cond, Option.bind, Option.map, eNew, eBox, asCells, lenH, snocH, eFieldAddr, eField, eLoad, cellsAt, getH, setH, dropL, takeL, mkAgg, lenL, lenS, shift, shiftL, shiftH, viewN, viewL, view, andT, junks, List.append_nil, Nat.beq, eIdxAddr, eIdxArr, eIndex, eStore, storeAt, spliceL, ones, one, eSlice, eSliceArr, bounds, subLo, addLo, eMake, eAppend, readS, repL, buildCells, chunk, purgeL, purgeLL, purgeH, purge, refs, refsL, List.cons_append, List.nil_append, wrOps, wrAl, wrDops, wrC, junkAt, putAll, putHs, headOf, headK, keepG, List.append_eq, headX, chkP, apartP, apartB, blk, strip, runAl, yld, putPs, lenN, findR, notRound, jumpK, jumpPT, jcode, List.map_cons, List.map_nil, ite_self, reduceIte]
    simp only [true_and, and_true, imp_self, implies_true, decide_eq_true_eq, decide_eq_false_iff_not, Nat.reduceAdd, Nat.reduceLeDiff, Bool.not_not, reduceCtorEq, false_imp_iff, Bool.not_eq_true', Bool.not_eq_false', Bool.false_eq_true, and_self, forall_const, ne_eq, not_false_eq_true, Nat.reduceEqDiff]
    refine ans_bool ?_
    exact h
  · exact h.1.elim

def L2 : Env := { ct := fun n => match n with | 8 => some trueC | 9 => some TravC | 14 => some chkC | 19 => some TouC | 20 => some exaC | _ => none, fn := fun _ => none, meth := fun _ _ => none }
theorem L2_ct8 : L2.ct 8 = some trueC := rfl
theorem L2_ct9 : L2.ct 9 = some TravC := rfl
theorem L2_ct14 : L2.ct 14 = some chkC := rfl
theorem L2_ct19 : L2.ct 19 = some TouC := rfl
theorem L2_ct20 : L2.ct 20 = some exaC := rfl
theorem L2_ok : EnvOk Try.prog L2 := by
  refine ⟨fun f c h => ?_, fun f vf h => ?_, fun _ _ => rfl, by kernel_rfl⟩
  · simp only [L2] at h
    split at h
    · cases h; exact ⟨shown8, Try.f8, Try.func8, by kernel_rfl, by kernel_rfl⟩
    · cases h; exact ⟨Trav9, Try.f9, Try.func9, by kernel_rfl, by kernel_rfl⟩
    · cases h; exact ⟨chk14, Try.f14, Try.func14, by kernel_rfl, by kernel_rfl⟩
    · cases h; exact ⟨Tou19, Try.f19, Try.func19, by kernel_rfl, by kernel_rfl⟩
    · cases h; exact ⟨exact20, Try.f20, Try.func20, by kernel_rfl, by kernel_rfl⟩
    · cases h
  · cases h


def lawP : List PSh := [⟨true, shChain⟩, ⟨false, [.int .i64]⟩]

theorem lawProduct : (lawC lawP).ok Try.prog 6 := by
  refine contract Try.func6 v6_is L2_ok 800 (lawC lawP) fun args k h => ?_
  obtain ⟨ha, hk⟩ := h
  obtain ⟨_, _, rfl, h1, e1⟩ := okPL_cons_inv ha
  obtain ⟨cs, rfl, hcs⟩ := okP_agg_inv h1
  obtain ⟨_, _, rfl, h2, e2⟩ := okPL_cons_inv e1
  obtain ⟨x, rfl, _⟩ := okP_one_inv h2
  cases okPL_nil_inv e2
  obtain ⟨⟨z, l, p, t⟩, hle, hmax⟩ := chain_of hcs
  refine ⟨[.agg (encC ⟨z, l, p, t⟩), .int .i64 x], ⟨leXL_le _ _ hle (by simp only [encC, bndL_cons, bndL_nil, bnd_vs, bnd_int, and_self]), ⟨rfl, rfl⟩, trivial⟩, ?_⟩
  dsimp only [v6, L2_ct8, trueC, L2_ct9, TravC, ch3C, L2_ct14, chkC, chC, L2_ct19, TouC, L2_ct20, exaC, encC, enc, r_end, r_end1, r_nil, r_op, r_opg, r_runOp, r_op0, r_yld0, r_yld1, r_y, r_rbeg, r_rend, r_rend1, r_rfrm, r_rfrm1, r_range, r_rangeK, r_rangeE, r_draw, r_dnil, r_dop, r_dopg, r_dplq, r_dplh, r_dq, r_dq0, r_dcl1, r_dcl0, r_dct1, r_dct0, r_dgd, r_dgq1, r_dgq0, r_dctG, r_op1, r_eff, r_eff0, r_call, r_call0, r_inl, r_g, r_gq, r_gc, r_effg, r_effg0, r_callg, r_callg0, r_fin, r_pre, r_imp, r_all, r_ex, r_fing, r_preg, r_exg, r_inBlock, r_inLoop, r_frame, r_frame1, r_skip, r_region, r_seq, r_cond, r_cond1, r_block, r_exit, r_exit1, r_exit2, r_ret, r_loop, s_args0, s_args1, s_xt, s_xc, padL, blankL, callee, callArgs, eff, ctOf, getL, setL, S.put, S.upd, unopts, unopt, unoptsO, unoptsB, lazyO, guardOf, gbool, eMov, eNot, eNeg, eConv, eExt, eLenArr, eLen, eLenStr, eEqb, eEqv, allEq, eNil, negIf, eBool2, eCmp, eAri, ari, eBit, eDiv, eSh, eMinMax, foldMin, foldMax, kEq, pure1, cmpB, VO.quiet, resVals, resVal, tupled, popRet, popTo, cond, Option.bind, Option.map, eNew, eBox, asCells, lenH, snocH, eFieldAddr, eField, eLoad, cellsAt, getH, setH, dropL, takeL, mkAgg, lenL, lenS, shift, shiftL, shiftH, viewN, viewL, view, andT, junks, List.append_nil, Nat.beq, eIdxAddr, eIdxArr, eIndex, eStore, storeAt, spliceL, ones, one, eSlice, eSliceArr, bounds, subLo, addLo, eMake, eAppend, readS, repL, buildCells, chunk, purgeL, purgeLL, purgeH, purge, refs, refsL, List.cons_append, List.nil_append, wrOps, wrAl, wrDops, wrC, junkAt, putAll, putHs, headOf, headK, keepG, List.append_eq, headX, chkP, apartP, apartB, blk, strip, runAl, yld, putPs, lenN, findR, notRound, jumpK, jumpPT, jcode, List.map_cons, List.map_nil, ite_self, reduceIte]
  simp only [true_and, and_true, imp_self, implies_true, decide_eq_true_eq, decide_eq_false_iff_not, Nat.reduceAdd, Nat.reduceLeDiff, Bool.not_not, reduceCtorEq, false_imp_iff, Bool.not_eq_true', Bool.not_eq_false', Bool.false_eq_true, and_self, forall_const, ne_eq, not_false_eq_true, Nat.reduceEqDiff]
  have key : l.length = l.length ∧ ∀ k : Nat, k < l.length → [SV.int .i64 (l.getD k default).num, SV.int .i64 (l.getD k default).den, SV.int .i64 (l.getD k default).play, SV.int .i64 (l.getD k default).weight] = [SV.int .i64 (l.getD k default).num, SV.int .i64 (l.getD k default).den, SV.int .i64 (l.getD k default).play, SV.int .i64 (l.getD k default).weight] := ⟨rfl, fun _ _ => rfl⟩
  refine ⟨l, key, fun _ => ans_bool hk, fun hb => ?_⟩
  simp only [Bool.or_eq_false_iff, Bool.not_eq_false', decide_eq_true_eq, decide_eq_false_iff_not] at hb
  obtain ⟨⟨hc, b1⟩, b2⟩ := hb
  obtain ⟨h8, h2, hpl, h3⟩ := valid hc
  obtain ⟨q1, q2, q3, q4⟩ := prod_law hc (key := x) (by omega)
  refine Loop.keep [1, 0, 2, 0, 0, 0] Nat (fun i => [(6, .int .i64 (prodF (l.take i)).num), (7, .int .i64 (prodF (l.take i)).den), (8, .int .i64 i)]) (fun i => [(1, .box [.own 2 0 i 4, .int .i64 p, .int .i64 t]), (2, .own (decide (i = 0)) 4 i (fun k => enc (bare (l.getD k default))))]) [.gone] (fun i => i ≤ l.length) (fun i => l.length - i) ?_ ?_
  · refine ⟨0, Nat.zero_le _, ?_⟩
    dsimp only [r_end, r_end1, r_nil, r_op, r_opg, r_runOp, r_op0, r_yld0, r_yld1, r_y, r_rbeg, r_rend, r_rend1, r_rfrm, r_rfrm1, r_range, r_rangeK, r_rangeE, r_draw, r_dnil, r_dop, r_dopg, r_dplq, r_dplh, r_dq, r_dq0, r_dcl1, r_dcl0, r_dct1, r_dct0, r_dgd, r_dgq1, r_dgq0, r_dctG, r_op1, r_eff, r_eff0, r_call, r_call0, r_inl, r_g, r_gq, r_gc, r_effg, r_effg0, r_callg, r_callg0, r_fin, r_pre, r_imp, r_all, r_ex, r_fing, r_preg, r_exg, r_inBlock, r_inLoop, r_frame, r_frame1, r_skip, r_region, r_seq, r_cond, r_cond1, r_block, r_exit, r_exit1, r_exit2, r_ret, r_loop, s_args0, s_args1, s_xt, s_xc, padL, blankL, callee, callArgs, eff, ctOf, getL, setL, S.put, S.upd, unopts, unopt, unoptsO, unoptsB, lazyO, guardOf, gbool, eMov, eNot, eNeg, eConv, eExt, eLenArr, eLen, eLenStr, eEqb, eEqv, allEq, eNil, negIf, eBool2, eCmp, eAri, ari, eBit, eDiv, eSh, eMinMax, foldMin, foldMax, kEq, pure1, cmpB, VO.quiet, resVals, resVal, tupled, popRet, popTo, cond, Option.bind, Option.map, eNew, eBox, asCells, lenH, snocH, eFieldAddr, eField, eLoad, cellsAt, getH, setH, dropL, takeL, mkAgg, lenL, lenS, shift, shiftL, shiftH, viewN, viewL, view, andT, junks, List.append_nil, Nat.beq, eIdxAddr, eIdxArr, eIndex, eStore, storeAt, spliceL, ones, one, eSlice, eSliceArr, bounds, subLo, addLo, eMake, eAppend, readS, repL, buildCells, chunk, purgeL, purgeLL, purgeH, purge, refs, refsL, List.cons_append, List.nil_append, wrOps, wrAl, wrDops, wrC, junkAt, putAll, putHs, headOf, headK, keepG, List.append_eq, headX, chkP, apartP, apartB, blk, strip, runAl, yld, putPs, lenN, findR, notRound, jumpK, jumpPT, jcode, List.map_cons, List.map_nil, ite_self, reduceIte]
    simp only [leS_mk, leL_cons, leL_nil, le_junk, le_int, le_bool, le_nil, leLL_nil, leLL_cons, leH_cons, leH_nil, leH1_box, leH1_own, leH1_gone, le_vs, le_agg, le_tup, le_ptr, le_own, le_xp, le_fn, le_opt, le_val, le_elem, le_nil_own, le_nil_vs, leH_ghost, leL_chunk, leXL_id, bnd_int, bnd_bool, bnd_val, bnd_nil, bnd_junk, bnd_vs, bnd_xp, bnd_agg, bnd_tup, bnd_ptr, bnd_own, bnd_elem, bnd_fn, bnd_iface, bnd_opt, bndL_nil, bndL_cons, lenH_cons, lenH_nil, imp_self, implies_true, true_and, and_true]
    simp [prodF]
  · intro i hi
    dsimp only [L2_ct9, TravC, ch3C, L2_ct19, TouC, chC, L2_ct20, exaC, L2_ct8, trueC, encC, enc, bare, Int.toNat_natCast, r_end, r_end1, r_nil, r_op, r_opg, r_runOp, r_op0, r_yld0, r_yld1, r_y, r_rbeg, r_rend, r_rend1, r_rfrm, r_rfrm1, r_range, r_rangeK, r_rangeE, r_draw, r_dnil, r_dop, r_dopg, r_dplq, r_dplh, r_dq, r_dq0, r_dcl1, r_dcl0, r_dct1, r_dct0, r_dgd, r_dgq1, r_dgq0, r_dctG, r_op1, r_eff, r_eff0, r_call, r_call0, r_inl, r_g, r_gq, r_gc, r_effg, r_effg0, r_callg, r_callg0, r_fin, r_pre, r_imp, r_all, r_ex, r_fing, r_preg, r_exg, r_inBlock, r_inLoop, r_frame, r_frame1, r_skip, r_region, r_seq, r_cond, r_cond1, r_block, r_exit, r_exit1, r_exit2, r_ret, r_loop, s_args0, s_args1, s_xt, s_xc, padL, blankL, callee, callArgs, eff, ctOf, getL, setL, S.put, S.upd, unopts, unopt, unoptsO, unoptsB, lazyO, guardOf, gbool, eMov, eNot, eNeg, eConv, eExt, eLenArr, eLen, eLenStr, eEqb, eEqv, allEq, eNil, negIf, eBool2, eCmp, eAri, ari, eBit, eDiv, eSh, eMinMax, foldMin, foldMax, kEq, pure1, cmpB, VO.quiet, resVals, resVal, tupled, popRet, popTo, cond, Option.bind, Option.map, eNew, eBox, asCells, lenH, snocH, eFieldAddr, eField, eLoad, cellsAt, getH, setH, dropL, takeL, mkAgg, lenL, lenS, shift, shiftL, shiftH, viewN, viewL, view, andT, junks, List.append_nil, Nat.beq, eIdxAddr, eIdxArr, eIndex, eStore, storeAt, spliceL, ones, one, eSlice, eSliceArr, bounds, subLo, addLo, eMake, eAppend, readS, repL, buildCells, chunk, purgeL, purgeLL, purgeH, purge, refs, refsL, List.cons_append, List.nil_append, wrOps, wrAl, wrDops, wrC, junkAt, putAll, putHs, headOf, headK, keepG, List.append_eq, headX, chkP, apartP, apartB, blk, strip, runAl, yld, putPs, lenN, findR, notRound, jumpK, jumpPT, jcode, List.map_cons, List.map_nil, ite_self, reduceIte]
    simp only [true_and, and_true, imp_self, implies_true, decide_eq_true_eq, decide_eq_false_iff_not, Nat.reduceAdd, Nat.reduceLeDiff, Bool.not_not, reduceCtorEq, false_imp_iff, Bool.not_eq_true', Bool.not_eq_false', Bool.false_eq_true, and_self, forall_const, ne_eq, not_false_eq_true, Nat.reduceEqDiff]
    refine ⟨fun hlt => ?_, fun hge => ?_⟩
    · dsimp only [L2_ct9, TravC, ch3C, L2_ct19, TouC, chC, L2_ct20, exaC, L2_ct8, trueC, encC, enc, bare, Int.toNat_natCast, r_end, r_end1, r_nil, r_op, r_opg, r_runOp, r_op0, r_yld0, r_yld1, r_y, r_rbeg, r_rend, r_rend1, r_rfrm, r_rfrm1, r_range, r_rangeK, r_rangeE, r_draw, r_dnil, r_dop, r_dopg, r_dplq, r_dplh, r_dq, r_dq0, r_dcl1, r_dcl0, r_dct1, r_dct0, r_dgd, r_dgq1, r_dgq0, r_dctG, r_op1, r_eff, r_eff0, r_call, r_call0, r_inl, r_g, r_gq, r_gc, r_effg, r_effg0, r_callg, r_callg0, r_fin, r_pre, r_imp, r_all, r_ex, r_fing, r_preg, r_exg, r_inBlock, r_inLoop, r_frame, r_frame1, r_skip, r_region, r_seq, r_cond, r_cond1, r_block, r_exit, r_exit1, r_exit2, r_ret, r_loop, s_args0, s_args1, s_xt, s_xc, padL, blankL, callee, callArgs, eff, ctOf, getL, setL, S.put, S.upd, unopts, unopt, unoptsO, unoptsB, lazyO, guardOf, gbool, eMov, eNot, eNeg, eConv, eExt, eLenArr, eLen, eLenStr, eEqb, eEqv, allEq, eNil, negIf, eBool2, eCmp, eAri, ari, eBit, eDiv, eSh, eMinMax, foldMin, foldMax, kEq, pure1, cmpB, VO.quiet, resVals, resVal, tupled, popRet, popTo, cond, Option.bind, Option.map, eNew, eBox, asCells, lenH, snocH, eFieldAddr, eField, eLoad, cellsAt, getH, setH, dropL, takeL, mkAgg, lenL, lenS, shift, shiftL, shiftH, viewN, viewL, view, andT, junks, List.append_nil, Nat.beq, eIdxAddr, eIdxArr, eIndex, eStore, storeAt, spliceL, ones, one, eSlice, eSliceArr, bounds, subLo, addLo, eMake, eAppend, readS, repL, buildCells, chunk, purgeL, purgeLL, purgeH, purge, refs, refsL, List.cons_append, List.nil_append, wrOps, wrAl, wrDops, wrC, junkAt, putAll, putHs, headOf, headK, keepG, List.append_eq, headX, chkP, apartP, apartB, blk, strip, runAl, yld, putPs, lenN, findR, notRound, jumpK, jumpPT, jcode, List.map_cons, List.map_nil, ite_self, reduceIte]
      simp only [true_and, and_true, imp_self, implies_true, decide_eq_true_eq, decide_eq_false_iff_not, Nat.reduceAdd, Nat.reduceLeDiff, Bool.not_not, reduceCtorEq, false_imp_iff, Bool.not_eq_true', Bool.not_eq_false', Bool.false_eq_true, and_self, forall_const, ne_eq, not_false_eq_true, Nat.reduceEqDiff]
      have hil : i < l.length := by omega
      refine ⟨by omega, by omega, by decide, ⟨by simp only [capOk]; omega, fun k hk => ?_⟩, by omega, by omega, i + 1, by omega, by omega, ?_⟩
      · match k, hk with
        | 0, _ => exact ⟨rfl, trivial, trivial, trivial, trivial, trivial⟩
      · have hw := w_succ (i := i) (n := l.length) (by omega) (by omega)
        rw [prod_succ hil]
        simp only [hw, timesF, w6, leS_mk, leL_cons, leL_nil, le_junk, le_int, le_bool, le_nil, leLL_nil, leLL_cons, leH_cons, leH_nil, leH1_box, leH1_own, leH1_gone, le_vs, le_agg, le_tup, le_ptr, le_own, le_xp, le_fn, le_opt, le_val, le_elem, le_nil_own, le_nil_vs, leH_ghost, leL_chunk, leXL_id, bnd_int, bnd_bool, bnd_val, bnd_nil, bnd_junk, bnd_vs, bnd_xp, bnd_agg, bnd_tup, bnd_ptr, bnd_own, bnd_elem, bnd_fn, bnd_iface, bnd_opt, bndL_nil, bndL_cons, lenH_cons, lenH_nil, imp_self, implies_true, true_and, and_true]
        refine ⟨⟨by omega, by omega⟩, by omega, by simp, fun q hq => ?_⟩
        rcases Nat.lt_or_ge q i with h' | h'
        · rw [if_pos h']; exact leL_self _ ⟨trivial, trivial, trivial, trivial, trivial⟩
        · obtain rfl : q = i := by omega
          rw [if_neg (by omega), Nat.sub_self]
          exact leL_self _ ⟨trivial, trivial, trivial, trivial, trivial⟩
    · obtain rfl : i = l.length := by omega
      have hbl : l.length = (l.map bare).length ∧ ∀ k : Nat, k < l.length → [SV.int .i64 (l.getD k default).num, SV.int .i64 (l.getD k default).den, SV.int .i64 0, SV.int .i64 0] = [SV.int .i64 ((l.map bare).getD k default).num, SV.int .i64 ((l.map bare).getD k default).den, SV.int .i64 ((l.map bare).getD k default).play, SV.int .i64 ((l.map bare).getD k default).weight] := by
        refine ⟨by simp, fun k hk => ?_⟩
        have e : (l.map bare).getD k default = bare (l.getD k default) := by simp [List.getD_eq_getElem?_getD, List.getElem?_eq_getElem hk]
        rw [e]; rfl
      refine ⟨l.map bare, hbl, by decide, by decide, l.map bare, hbl, by decide, by decide, ans_bool ?_⟩
      rw [List.take_length]
      have hk' : k (.bool true) [] := hk
      rw [q1, q2]
      change k (.bool (decide ((0 : Int) = 0) && decide ((0 : Int) = 0) && exF _ _ (w6 _) _ && exF _ _ (w6 _) _ && true)) []
      rw [q3, q4]
      exact hk'
end Go.Proofs.Ytmhlinndhmdjlaa
