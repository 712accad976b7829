/- Bellows: two laws, walked. -/
import Derived.Test.YtliipeebknljdaaW8
set_option linter.all false
namespace Go.Proofs.Ytliipeebknljdaa
open Go Go.Vx
set_option maxRecDepth 100000
set_option maxHeartbeats 4000000

def v3 : VF := { ntmps := 104, res := [.tmp 4], body :=
 (.seq (.region [⟨(some 2), none, .box, [.tm 0]⟩,
  ⟨(some 4), none, .mov, [.cn (.bool false)]⟩])
 (.seq (.seq (.region [⟨(some 19), none, .mov, [.tm 1]⟩,
  ⟨(some 20), none, .len, [.tm 19]⟩,
  ⟨(some 21), none, (.cmp .gtr), [.tm 20, .cn (.int .i64 1010)]⟩])
 (.cond (.tm 21) (.seq (.region [⟨(some 22), none, (.call 9), []⟩,
  ⟨(some 4), none, .mov, [.tm 22]⟩])
 .ret)
  .skip))
 (.seq (.region [⟨(some 24), none, (.load true 5), [.tm 2]⟩,
  ⟨(some 25), none, .mov, [.tm 1]⟩,
  ⟨(some 26), none, (.call 10), [.tm 24, .tm 25]⟩,
  ⟨(some 23), none, .mov, [.tm 26]⟩,
  ⟨(some 27), none, (.ext 0), [.tm 23]⟩,
  ⟨(some 28), none, (.ext 1), [.tm 23]⟩,
  ⟨(some 5), none, .mov, [.tm 27]⟩,
  ⟨(some 6), none, .mov, [.tm 28]⟩])
 (.seq (.region [⟨(some 30), none, (.load true 5), [.tm 2]⟩,
  ⟨(some 31), none, .mov, [.tm 1]⟩,
  ⟨(some 32), none, (.call 11), [.tm 30, .tm 31]⟩,
  ⟨(some 29), none, .mov, [.tm 32]⟩,
  ⟨(some 33), none, (.ext 0), [.tm 29]⟩,
  ⟨(some 34), none, (.ext 1), [.tm 29]⟩,
  ⟨(some 7), none, .mov, [.tm 33]⟩,
  ⟨(some 8), none, .mov, [.tm 34]⟩])
 (.seq (.region [⟨(some 36), none, (.load true 5), [.tm 2]⟩,
  ⟨(some 37), none, .mov, [.tm 1]⟩,
  ⟨(some 38), none, (.call 12), [.tm 36, .tm 37]⟩,
  ⟨(some 35), none, .mov, [.tm 38]⟩,
  ⟨(some 39), none, (.ext 0), [.tm 35]⟩,
  ⟨(some 40), none, (.ext 1), [.tm 35]⟩,
  ⟨(some 9), none, .mov, [.tm 39]⟩,
  ⟨(some 10), none, .mov, [.tm 40]⟩])
 (.seq (.region [⟨(some 42), none, (.load true 5), [.tm 2]⟩,
  ⟨(some 43), none, .mov, [.tm 1]⟩,
  ⟨(some 44), none, (.call 13), [.tm 42, .tm 43]⟩,
  ⟨(some 41), none, .mov, [.tm 44]⟩,
  ⟨(some 45), none, (.ext 0), [.tm 41]⟩,
  ⟨(some 46), none, (.ext 1), [.tm 41]⟩,
  ⟨(some 11), none, .mov, [.tm 45]⟩,
  ⟨(some 12), none, .mov, [.tm 46]⟩])
 (.seq (.region [⟨(some 48), none, (.load true 5), [.tm 2]⟩,
  ⟨(some 49), none, .mov, [.tm 1]⟩,
  ⟨(some 50), none, (.call 14), [.tm 48, .tm 49]⟩,
  ⟨(some 47), none, .mov, [.tm 50]⟩,
  ⟨(some 51), none, (.ext 0), [.tm 47]⟩,
  ⟨(some 52), none, (.ext 1), [.tm 47]⟩,
  ⟨(some 53), none, (.ext 2), [.tm 47]⟩,
  ⟨(some 13), none, .mov, [.tm 51]⟩,
  ⟨(some 14), none, .mov, [.tm 52]⟩,
  ⟨(some 15), none, .mov, [.tm 53]⟩])
 (.seq (.region [⟨(some 55), none, (.load true 5), [.tm 2]⟩,
  ⟨(some 56), none, .mov, [.tm 1]⟩,
  ⟨(some 57), none, (.call 15), [.tm 55, .tm 56]⟩,
  ⟨(some 54), none, .mov, [.tm 57]⟩,
  ⟨(some 58), none, (.ext 0), [.tm 54]⟩,
  ⟨(some 59), none, (.ext 1), [.tm 54]⟩,
  ⟨(some 60), none, (.ext 2), [.tm 54]⟩,
  ⟨(some 16), none, .mov, [.tm 58]⟩,
  ⟨(some 17), none, .mov, [.tm 59]⟩,
  ⟨(some 18), none, .mov, [.tm 60]⟩])
 (.seq (.draw [] [⟨⟨(some 61), none, (.load true 5), [.tm 2]⟩, []⟩,
  ⟨⟨(some 63), none, (.load true 5), [.tm 2]⟩, []⟩,
  ⟨⟨(some 62), none, (.call 16), [.tm 61]⟩, []⟩,
  ⟨⟨(some 64), none, (.call 17), [.tm 63]⟩, []⟩,
  ⟨⟨(some 65), none, (.cmp .eql), [.tm 62, .tm 64]⟩, []⟩,
  ⟨⟨(some 66), none, .mov, [.tm 65]⟩, []⟩,
  ⟨⟨(some 67), (some (66, true)), .mov, [.tm 5]⟩, []⟩,
  ⟨⟨(some 68), (some (66, true)), .mov, [.tm 7]⟩, []⟩,
  ⟨⟨(some 69), (some (66, true)), (.call 18), [.tm 67, .tm 68]⟩, []⟩,
  ⟨⟨(some 70), none, .and, [.tm 66, .tm 69]⟩, []⟩,
  ⟨⟨(some 71), none, .mov, [.tm 70]⟩, []⟩,
  ⟨⟨(some 72), (some (71, true)), .mov, [.tm 6]⟩, []⟩,
  ⟨⟨(some 73), (some (71, true)), .mov, [.tm 8]⟩, []⟩,
  ⟨⟨(some 74), (some (71, true)), (.cmp .eql), [.tm 72, .tm 73]⟩, []⟩,
  ⟨⟨(some 75), none, .and, [.tm 71, .tm 74]⟩, []⟩,
  ⟨⟨(some 76), none, .mov, [.tm 75]⟩, []⟩,
  ⟨⟨(some 77), (some (76, true)), .mov, [.tm 9]⟩, []⟩,
  ⟨⟨(some 78), (some (76, true)), .mov, [.tm 11]⟩, []⟩,
  ⟨⟨(some 79), (some (76, true)), (.call 18), [.tm 77, .tm 78]⟩, []⟩,
  ⟨⟨(some 80), none, .and, [.tm 76, .tm 79]⟩, []⟩,
  ⟨⟨(some 81), none, .mov, [.tm 80]⟩, []⟩,
  ⟨⟨(some 82), (some (81, true)), .mov, [.tm 10]⟩, []⟩,
  ⟨⟨(some 83), (some (81, true)), .mov, [.tm 12]⟩, []⟩,
  ⟨⟨(some 84), (some (81, true)), (.cmp .eql), [.tm 82, .tm 83]⟩, []⟩,
  ⟨⟨(some 85), none, .and, [.tm 81, .tm 84]⟩, []⟩,
  ⟨⟨(some 86), none, .mov, [.tm 85]⟩, []⟩,
  ⟨⟨(some 87), (some (86, true)), .mov, [.tm 13]⟩, []⟩,
  ⟨⟨(some 88), (some (86, true)), .mov, [.tm 16]⟩, []⟩,
  ⟨⟨(some 89), (some (86, true)), (.cmp .eql), [.tm 87, .tm 88]⟩, []⟩,
  ⟨⟨(some 90), none, .and, [.tm 86, .tm 89]⟩, []⟩,
  ⟨⟨(some 91), none, .mov, [.tm 90]⟩, []⟩,
  ⟨⟨(some 92), (some (91, true)), .mov, [.tm 14]⟩, []⟩,
  ⟨⟨(some 93), (some (91, true)), .mov, [.tm 17]⟩, []⟩,
  ⟨⟨(some 94), (some (91, true)), (.cmp .eql), [.tm 92, .tm 93]⟩, []⟩,
  ⟨⟨(some 95), none, .and, [.tm 91, .tm 94]⟩, []⟩,
  ⟨⟨(some 96), none, .mov, [.tm 95]⟩, []⟩,
  ⟨⟨(some 97), (some (96, true)), .mov, [.tm 15]⟩, []⟩,
  ⟨⟨(some 98), (some (96, true)), .mov, [.tm 18]⟩, []⟩,
  ⟨⟨(some 99), (some (96, true)), (.cmp .eql), [.tm 97, .tm 98]⟩, []⟩,
  ⟨⟨(some 100), none, .and, [.tm 96, .tm 99]⟩, []⟩,
  ⟨⟨(some 101), none, .mov, [.tm 100]⟩, []⟩,
  ⟨⟨(some 102), (some (101, true)), (.call 9), []⟩, []⟩,
  ⟨⟨(some 103), none, .and, [.tm 101, .tm 102]⟩, []⟩,
  ⟨⟨(some 4), none, .mov, [.tm 103]⟩, []⟩])
 .ret))))))))) }
theorem v3_is : vfunc Try.prog Try.f3 = some v3 := by kernel_rfl
def v4 : VF := { ntmps := 73, res := [.tmp 6], body :=
 (.seq (.region [⟨(some 3), none, .box, [.tm 0]⟩,
  ⟨(some 6), none, .mov, [.cn (.bool false)]⟩])
 (.seq (.seq (.region [⟨(some 17), none, .mov, [.tm 2]⟩,
  ⟨(some 18), none, .len, [.tm 17]⟩,
  ⟨(some 19), none, (.cmp .gtr), [.tm 18, .cn (.int .i64 1010)]⟩])
 (.cond (.tm 19) (.seq (.region [⟨(some 20), none, (.call 9), []⟩,
  ⟨(some 6), none, .mov, [.tm 20]⟩])
 .ret)
  .skip))
 (.seq (.region [⟨(some 22), none, (.load true 5), [.tm 3]⟩,
  ⟨(some 23), none, .mov, [.tm 1]⟩,
  ⟨(some 24), none, (.call 19), [.tm 22, .tm 23]⟩,
  ⟨(some 21), none, .mov, [.tm 24]⟩,
  ⟨(some 25), none, (.ext 0), [.tm 21]⟩,
  ⟨(some 26), none, (.ext 1), [.tm 21]⟩,
  ⟨(some 27), none, (.ext 2), [.tm 21]⟩,
  ⟨(some 7), none, .mov, [.tm 25]⟩,
  ⟨(some 8), none, .mov, [.tm 26]⟩,
  ⟨(some 9), none, .mov, [.tm 27]⟩])
 (.seq (.region [⟨(some 29), none, (.load true 5), [.tm 3]⟩,
  ⟨(some 30), none, .mov, [.tm 1]⟩,
  ⟨(some 31), none, (.call 20), [.tm 29, .tm 30]⟩,
  ⟨(some 28), none, .mov, [.tm 31]⟩,
  ⟨(some 32), none, (.ext 0), [.tm 28]⟩,
  ⟨(some 33), none, (.ext 1), [.tm 28]⟩,
  ⟨(some 34), none, (.ext 2), [.tm 28]⟩,
  ⟨(some 10), none, .mov, [.tm 32]⟩,
  ⟨(some 11), none, .mov, [.tm 33]⟩,
  ⟨(some 12), none, .mov, [.tm 34]⟩])
 (.seq (.region [⟨(some 36), none, (.load true 5), [.tm 3]⟩,
  ⟨(some 37), none, .mov, [.tm 2]⟩,
  ⟨(some 38), none, (.call 21), [.tm 36, .tm 37]⟩,
  ⟨(some 35), none, .mov, [.tm 38]⟩,
  ⟨(some 39), none, (.ext 0), [.tm 35]⟩,
  ⟨(some 40), none, (.ext 1), [.tm 35]⟩,
  ⟨(some 13), none, .mov, [.tm 39]⟩,
  ⟨(some 14), none, .mov, [.tm 40]⟩])
 (.seq (.region [⟨(some 42), none, (.load true 5), [.tm 3]⟩,
  ⟨(some 43), none, .mov, [.tm 2]⟩,
  ⟨(some 44), none, (.call 22), [.tm 42, .tm 43]⟩,
  ⟨(some 41), none, .mov, [.tm 44]⟩,
  ⟨(some 45), none, (.ext 0), [.tm 41]⟩,
  ⟨(some 46), none, (.ext 1), [.tm 41]⟩,
  ⟨(some 15), none, .mov, [.tm 45]⟩,
  ⟨(some 16), none, .mov, [.tm 46]⟩])
 (.seq (.region [⟨(some 47), none, .mov, [.tm 7]⟩,
  ⟨(some 48), none, .mov, [.tm 10]⟩,
  ⟨(some 49), none, (.cmp .eql), [.tm 47, .tm 48]⟩,
  ⟨(some 50), none, .mov, [.tm 49]⟩,
  ⟨(some 51), (some (50, true)), .mov, [.tm 8]⟩,
  ⟨(some 52), (some (50, true)), .mov, [.tm 11]⟩,
  ⟨(some 53), (some (50, true)), (.cmp .eql), [.tm 51, .tm 52]⟩,
  ⟨(some 54), none, .and, [.tm 50, .tm 53]⟩,
  ⟨(some 55), none, .mov, [.tm 54]⟩,
  ⟨(some 56), (some (55, true)), .mov, [.tm 9]⟩,
  ⟨(some 57), (some (55, true)), .mov, [.tm 12]⟩,
  ⟨(some 58), (some (55, true)), (.cmp .eql), [.tm 56, .tm 57]⟩,
  ⟨(some 59), none, .and, [.tm 55, .tm 58]⟩,
  ⟨(some 60), none, .mov, [.tm 59]⟩,
  ⟨(some 61), (some (60, true)), .mov, [.tm 13]⟩,
  ⟨(some 62), (some (60, true)), .mov, [.tm 15]⟩,
  ⟨(some 63), (some (60, true)), (.cmp .eql), [.tm 61, .tm 62]⟩,
  ⟨(some 64), none, .and, [.tm 60, .tm 63]⟩,
  ⟨(some 65), none, .mov, [.tm 64]⟩,
  ⟨(some 66), (some (65, true)), .mov, [.tm 14]⟩,
  ⟨(some 67), (some (65, true)), .mov, [.tm 16]⟩,
  ⟨(some 68), (some (65, true)), (.cmp .eql), [.tm 66, .tm 67]⟩,
  ⟨(some 69), none, .and, [.tm 65, .tm 68]⟩,
  ⟨(some 70), none, .mov, [.tm 69]⟩,
  ⟨(some 71), (some (70, true)), (.call 9), []⟩,
  ⟨(some 72), none, .and, [.tm 70, .tm 71]⟩,
  ⟨(some 6), none, .mov, [.tm 72]⟩])
 .ret))))))) }
theorem v4_is : vfunc Try.prog Try.f4 = some v4 := by kernel_rfl


def shB : List Sh := [.int .i64, .int .i64, .int .i64, .int .i64, .int .i64]
theorem bel_of {c : List SV} (h : okSL shB c) : ∃ b : Bel, c = [.int .i64 b.st, .int .i64 b.lo, .int .i64 b.hi, .int .i64 b.il, .int .i64 b.ih] := by
  obtain ⟨_, _, rfl, ⟨n1, rfl, _⟩, e1⟩ := okSL_cons_inv h
  obtain ⟨_, _, rfl, ⟨n2, rfl, _⟩, e2⟩ := okSL_cons_inv e1
  obtain ⟨_, _, rfl, ⟨n3, rfl, _⟩, e3⟩ := okSL_cons_inv e2
  obtain ⟨_, _, rfl, ⟨n4, rfl, _⟩, e4⟩ := okSL_cons_inv e3
  obtain ⟨_, _, rfl, ⟨n5, rfl, _⟩, e5⟩ := okSL_cons_inv e4
  cases okSL_nil_inv e5
  exact ⟨⟨n1, n2, n3, n4, n5⟩, rfl⟩

def lawR : List PSh := [⟨true, shB⟩, ⟨false, [.slice bare2]⟩]

theorem lawRuns : (lawC lawR).ok Try.prog 3 := by
  refine contract Try.func3 v3_is L1_ok 800 (lawC lawR) fun args k h => ?_
  obtain ⟨ha, hk⟩ := h
  obtain ⟨_, _, rfl, h1, e1⟩ := okPL_cons_inv ha
  obtain ⟨cs, rfl, hcs⟩ := okP_agg_inv h1
  obtain ⟨v, _, rfl, h2, e2⟩ := okPL_cons_inv e1
  cases okPL_nil_inv e2
  obtain ⟨⟨st, lo, hi, il, ih⟩, rfl⟩ := bel_of hcs
  obtain ⟨z, l, hmax, hle⟩ := ivs_of (okP_one_inv h2)
  rw [maxLen_eq] at hmax
  refine ⟨[.agg [.int .i64 st, .int .i64 lo, .int .i64 hi, .int .i64 il, .int .i64 ih], .vs false z l.length 2 (fun k => enc2 (l.getD k default))], ⟨leXL_le _ _ (leXL_self _) (by simp only [bndL_cons, bndL_nil, bnd_vs, bnd_int, and_self]), leX_le _ _ hle trivial, trivial⟩, ?_⟩
  dsimp only [v3, L1_ct9, trueC, L1_ct10, runC, L1_ct11, rrunC, L1_ct12, givC, L1_ct13, rgivC, L1_ct14, L1_ct15, failsC, demC, ivsR, L1_ct16, L1_ct17, belC, L1_ct18, same2C, enc2, r_end, r_end1, r_nil, r_op, r_opg, r_runOp, r_op0, r_yld0, r_yld1, r_y, r_rbeg, r_rend, r_rend1, r_rfrm, r_rfrm1, r_range, r_rangeK, r_rangeE, r_draw, r_dnil, r_dop, r_dopg, r_dplq, r_dplh, r_dq, r_dq0, r_dcl1, r_dcl0, r_dct1, r_dct0, r_dgd, r_dgq1, r_dgq0, r_dctG, r_op1, r_eff, r_eff0, r_call, r_call0, r_inl, r_g, r_gq, r_gc, r_effg, r_effg0, r_callg, r_callg0, r_fin, r_pre, r_imp, r_all, r_ex, r_fing, r_preg, r_exg, r_inBlock, r_inLoop, r_frame, r_frame1, r_skip, r_region, r_seq, r_cond, r_cond1, r_block, r_exit, r_exit1, r_exit2, r_ret, r_loop, s_args0, s_args1, s_xt, s_xc, padL, blankL, callee, callArgs, eff, ctOf, getL, setL, S.put, S.upd, unopts, unopt, unoptsO, unoptsB, lazyO, guardOf, gbool, eMov, eNot, eNeg, eConv, eExt, eLenArr, eLen, eLenStr, eEqb, eEqv, allEq, eNil, negIf, eBool2, eCmp, eAri, ari, eBit, eDiv, eSh, eMinMax, foldMin, foldMax, kEq, pure1, cmpB, VO.quiet, resVals, resVal, tupled, popRet, popTo, cond, Option.bind, Option.map, eNew, eBox, asCells, lenH, snocH, eFieldAddr, eField, eLoad, cellsAt, getH, setH, dropL, takeL, mkAgg, lenL, lenS, shift, shiftL, shiftH, viewN, viewL, view, andT, junks, List.append_nil, Nat.beq, eIdxAddr, eIdxArr, eIndex, eStore, storeAt, spliceL, ones, one, eSlice, eSliceArr, bounds, subLo, addLo, eMake, eAppend, readS, repL, buildCells, chunk, purgeL, purgeLL, purgeH, purge, refs, refsL, List.cons_append, List.nil_append, wrOps, wrAl, wrDops, wrC, junkAt, putAll, putHs, headOf, headK, keepG, List.append_eq, headX, chkP, apartP, apartB, blk, strip, runAl, yld, putPs, lenN, findR, notRound, jumpK, jumpPT, jcode, List.map_cons, List.map_nil, ite_self, reduceIte]
  simp only [true_and, and_true, imp_self, implies_true, decide_eq_true_eq, decide_eq_false_iff_not, Nat.reduceAdd, Nat.reduceLeDiff, Bool.not_not, reduceCtorEq, false_imp_iff, Bool.not_eq_true', Bool.not_eq_false', Bool.false_eq_true, and_self, forall_const, ne_eq, not_false_eq_true, Nat.reduceEqDiff]
  have hR : (runF ⟨st, lo, hi, il, ih⟩ l).1.length ≤ 9223372036854775807 := by
    unfold runF; split
    · simp
    · simpa [run_len] using hmax
  have hG : (givF ⟨st, lo, hi, il, ih⟩ l).1.length ≤ 9223372036854775807 := by
    unfold givF; split
    · simp
    · simpa [giv_len] using hmax
  refine ⟨fun _ => ans_bool hk, fun hlt => ⟨l, ⟨lsP_self, hmax⟩, by decide, by decide, l, ⟨lsP_self, hmax⟩, by decide, by decide, l, ⟨lsP_self, hmax⟩, by decide, by decide, l, ⟨lsP_self, hmax⟩, by decide, by decide, l, ⟨lsP_self, hmax⟩, by decide, by decide, by decide, l, ⟨lsP_self, hmax⟩, by decide, by decide, by decide, _, _, ⟨lsP_self, lsP_self, hR⟩, _, _, fun _ => ⟨lsP_self, lsP_self, hG⟩, ans_bool ?_⟩⟩
  have hk' : k (.bool true) [] := hk
  simpa using hk'

def lawL : List PSh := [⟨true, shB⟩, ⟨false, [.int .i64]⟩, ⟨false, [.slice bare2]⟩]

theorem lawLasts : (lawC lawL).ok Try.prog 4 := by
  refine contract Try.func4 v4_is L1_ok 800 (lawC lawL) fun args k h => ?_
  obtain ⟨ha, hk⟩ := h
  obtain ⟨_, _, rfl, h1, e1⟩ := okPL_cons_inv ha
  obtain ⟨cs, rfl, hcs⟩ := okP_agg_inv h1
  obtain ⟨_, _, rfl, h2, e2⟩ := okPL_cons_inv e1
  obtain ⟨d, rfl, _⟩ := okP_one_inv h2
  obtain ⟨v, _, rfl, h3, e3⟩ := okPL_cons_inv e2
  cases okPL_nil_inv e3
  obtain ⟨⟨st, lo, hi, il, ih⟩, rfl⟩ := bel_of hcs
  obtain ⟨z, l, hmax, hle⟩ := ivs_of (okP_one_inv h3)
  rw [maxLen_eq] at hmax
  refine ⟨[.agg [.int .i64 st, .int .i64 lo, .int .i64 hi, .int .i64 il, .int .i64 ih], .int .i64 d, .vs false z l.length 2 (fun k => enc2 (l.getD k default))], ⟨leXL_le _ _ (leXL_self _) (by simp only [bndL_cons, bndL_nil, bnd_vs, bnd_int, and_self]), ⟨rfl, rfl⟩, leX_le _ _ hle trivial, trivial⟩, ?_⟩
  dsimp only [v4, L1_ct9, trueC, L1_ct19, L1_ct20, lastsC, d1C, L1_ct21, L1_ct22, needC, demC, enc2, r_end, r_end1, r_nil, r_op, r_opg, r_runOp, r_op0, r_yld0, r_yld1, r_y, r_rbeg, r_rend, r_rend1, r_rfrm, r_rfrm1, r_range, r_rangeK, r_rangeE, r_draw, r_dnil, r_dop, r_dopg, r_dplq, r_dplh, r_dq, r_dq0, r_dcl1, r_dcl0, r_dct1, r_dct0, r_dgd, r_dgq1, r_dgq0, r_dctG, r_op1, r_eff, r_eff0, r_call, r_call0, r_inl, r_g, r_gq, r_gc, r_effg, r_effg0, r_callg, r_callg0, r_fin, r_pre, r_imp, r_all, r_ex, r_fing, r_preg, r_exg, r_inBlock, r_inLoop, r_frame, r_frame1, r_skip, r_region, r_seq, r_cond, r_cond1, r_block, r_exit, r_exit1, r_exit2, r_ret, r_loop, s_args0, s_args1, s_xt, s_xc, padL, blankL, callee, callArgs, eff, ctOf, getL, setL, S.put, S.upd, unopts, unopt, unoptsO, unoptsB, lazyO, guardOf, gbool, eMov, eNot, eNeg, eConv, eExt, eLenArr, eLen, eLenStr, eEqb, eEqv, allEq, eNil, negIf, eBool2, eCmp, eAri, ari, eBit, eDiv, eSh, eMinMax, foldMin, foldMax, kEq, pure1, cmpB, VO.quiet, resVals, resVal, tupled, popRet, popTo, cond, Option.bind, Option.map, eNew, eBox, asCells, lenH, snocH, eFieldAddr, eField, eLoad, cellsAt, getH, setH, dropL, takeL, mkAgg, lenL, lenS, shift, shiftL, shiftH, viewN, viewL, view, andT, junks, List.append_nil, Nat.beq, eIdxAddr, eIdxArr, eIndex, eStore, storeAt, spliceL, ones, one, eSlice, eSliceArr, bounds, subLo, addLo, eMake, eAppend, readS, repL, buildCells, chunk, purgeL, purgeLL, purgeH, purge, refs, refsL, List.cons_append, List.nil_append, wrOps, wrAl, wrDops, wrC, junkAt, putAll, putHs, headOf, headK, keepG, List.append_eq, headX, chkP, apartP, apartB, blk, strip, runAl, yld, putPs, lenN, findR, notRound, jumpK, jumpPT, jcode, List.map_cons, List.map_nil, ite_self, reduceIte]
  simp only [true_and, and_true, imp_self, implies_true, decide_eq_true_eq, decide_eq_false_iff_not, Nat.reduceAdd, Nat.reduceLeDiff, Bool.not_not, reduceCtorEq, false_imp_iff, Bool.not_eq_true', Bool.not_eq_false', Bool.false_eq_true, and_self, forall_const, ne_eq, not_false_eq_true, Nat.reduceEqDiff]
  refine ⟨fun _ => ans_bool hk, fun hlt => ⟨by decide, by decide, by decide, by decide, by decide, by decide, l, ⟨lsP_self, hmax⟩, by decide, by decide, l, ⟨lsP_self, hmax⟩, by decide, by decide, ans_bool ?_⟩⟩
  have hk' : k (.bool true) [] := hk
  simpa using hk'
end Go.Proofs.Ytliipeebknljdaa
