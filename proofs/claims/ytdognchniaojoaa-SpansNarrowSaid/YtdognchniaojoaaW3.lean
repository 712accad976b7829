/- Spans: the helpers of the laws without a reference, walked. -/
import Derived.Test.YtdognchniaojoaaW2
import Derived.Test.YtdognchniaojoaaP1
set_option linter.all false
namespace Go.Proofs.Ytdognchniaojoaa
open Go Go.Vx
set_option maxRecDepth 100000
set_option maxHeartbeats 4000000

def v21 : VF := { ntmps := 33, res := [.cell 4 true 2, .tmp 5], body :=
 (.seq (.region [⟨(some 2), none, .box, [.tm 0]⟩,
  ⟨(some 4), none, (.alloc [(.int .i64 0), (.int .i64 0)]), []⟩,
  ⟨(some 5), none, .mov, [.cn (.int .i64 0)]⟩])
 (.seq (.region [⟨(some 7), none, (.idxArr 2 1), [.tm 2, .cn (.int .i64 0)]⟩,
  ⟨(some 8), none, (.load false 1), [.tm 7]⟩,
  ⟨(some 9), none, (.idxArr 2 1), [.tm 2, .cn (.int .i64 1)]⟩,
  ⟨(some 10), none, (.load false 1), [.tm 9]⟩,
  ⟨(some 11), none, .min, [.tm 8, .tm 10]⟩,
  ⟨(some 12), none, (.conv .i64), [.tm 11]⟩,
  ⟨(some 13), none, (.idxArr 2 1), [.tm 2, .cn (.int .i64 0)]⟩,
  ⟨(some 14), none, (.load false 1), [.tm 13]⟩,
  ⟨(some 15), none, (.idxArr 2 1), [.tm 2, .cn (.int .i64 1)]⟩,
  ⟨(some 16), none, (.load false 1), [.tm 15]⟩,
  ⟨(some 17), none, .max, [.tm 14, .tm 16]⟩,
  ⟨(some 18), none, (.conv .i64), [.tm 17]⟩,
  ⟨(some 19), none, (.call 22), [.tm 12, .tm 18]⟩,
  ⟨(some 6), none, (.alloc [(.int .i64 0), (.int .i64 0)]), []⟩,
  ⟨none, none, (.store 2), [.tm 6, .tm 19]⟩])
 (.seq (.draw [] [⟨⟨(some 20), none, (.load true 2), [.tm 6]⟩, []⟩,
  ⟨⟨(some 21), none, (.fieldAddr 0), [.tm 6]⟩, []⟩,
  ⟨⟨(some 22), none, (.load false 1), [.tm 21]⟩, []⟩,
  ⟨⟨(some 23), none, .mov, [.tm 1]⟩, []⟩,
  ⟨⟨(some 24), none, (.conv .i64), [.tm 23]⟩, []⟩,
  ⟨⟨(some 25), none, (.fieldAddr 1), [.tm 6]⟩, []⟩,
  ⟨⟨(some 26), none, (.load false 1), [.tm 25]⟩, []⟩,
  ⟨⟨(some 27), none, (.fieldAddr 0), [.tm 6]⟩, []⟩,
  ⟨⟨(some 28), none, (.load false 1), [.tm 27]⟩, []⟩,
  ⟨⟨(some 29), none, (.ari .sub), [.tm 26, .tm 28]⟩, []⟩,
  ⟨⟨(some 30), none, (.ari .add), [.tm 29, .cn (.int .i64 1)]⟩, []⟩,
  ⟨⟨(some 31), none, .rem, [.tm 24, .tm 30]⟩, []⟩,
  ⟨⟨(some 32), none, (.ari .add), [.tm 22, .tm 31]⟩, []⟩,
  ⟨⟨none, none, (.store 2), [.tm 4, .tm 20]⟩, [.tm 21, .tm 25, .tm 27]⟩,
  ⟨⟨(some 5), none, .mov, [.tm 32]⟩, []⟩])
 .ret))) }
theorem v21_is : vfunc Try.prog Try.f21 = some v21 := by kernel_rfl
def v27 : VF := { ntmps := 15, res := [.tmp 4], body :=
 (.seq (.region [⟨(some 3), none, .box, [.tm 1]⟩,
  ⟨(some 4), none, .mov, [.cn (.bool false)]⟩])
 (.seq (.region [⟨(some 5), none, (.fieldAddr 0), [.tm 3]⟩,
  ⟨(some 6), none, (.load false 1), [.tm 5]⟩,
  ⟨(some 7), none, .mov, [.tm 0]⟩,
  ⟨(some 8), none, (.cmp .leq), [.tm 6, .tm 7]⟩,
  ⟨(some 9), none, .mov, [.tm 8]⟩,
  ⟨(some 10), (some (9, true)), .mov, [.tm 0]⟩,
  ⟨(some 11), (some (9, true)), (.fieldAddr 1), [.tm 3]⟩,
  ⟨(some 12), (some (9, true)), (.load false 1), [.tm 11]⟩,
  ⟨(some 13), (some (9, true)), (.cmp .leq), [.tm 10, .tm 12]⟩,
  ⟨(some 14), none, .and, [.tm 9, .tm 13]⟩,
  ⟨(some 4), none, .mov, [.tm 14]⟩])
 .ret)) }
theorem v27_is : vfunc Try.prog Try.f27 = some v27 := by kernel_rfl
def v63 : VF := { ntmps := 23, res := [.tmp 4], body :=
 (.seq (.region [⟨(some 4), none, .mov, [.cn (.int .i64 0)]⟩])
 (.seq (.region [⟨(some 6), none, .mov, [.tm 0]⟩,
  ⟨(some 7), none, .mov, [.tm 1]⟩,
  ⟨(some 8), none, .quo, [.tm 6, .tm 7]⟩,
  ⟨(some 5), none, .mov, [.tm 8]⟩])
 (.seq (.seq (.region [⟨(some 9), none, .mov, [.tm 0]⟩,
  ⟨(some 10), none, .mov, [.tm 1]⟩,
  ⟨(some 11), none, .rem, [.tm 9, .tm 10]⟩,
  ⟨(some 12), none, (.cmp .neq), [.tm 11, .cn (.int .i64 0)]⟩,
  ⟨(some 13), none, .mov, [.tm 12]⟩,
  ⟨(some 14), (some (13, true)), .mov, [.tm 0]⟩,
  ⟨(some 15), (some (13, true)), (.cmp .lss), [.tm 14, .cn (.int .i64 0)]⟩,
  ⟨(some 16), (some (13, true)), .mov, [.tm 1]⟩,
  ⟨(some 17), (some (13, true)), (.cmp .lss), [.tm 16, .cn (.int .i64 0)]⟩,
  ⟨(some 18), (some (13, true)), (.eqb true), [.tm 15, .tm 17]⟩,
  ⟨(some 19), none, .and, [.tm 13, .tm 18]⟩])
 (.cond (.tm 19) (.region [⟨(some 20), none, .mov, [.tm 5]⟩,
  ⟨(some 21), none, (.ari .sub), [.tm 20, .cn (.int .i64 1)]⟩,
  ⟨(some 5), none, .mov, [.tm 21]⟩])
  .skip))
 (.seq (.region [⟨(some 22), none, .mov, [.tm 5]⟩,
  ⟨(some 4), none, .mov, [.tm 22]⟩])
 .ret)))) }
theorem v63_is : vfunc Try.prog Try.f63 = some v63 := by kernel_rfl
def v28 : VF := { ntmps := 44, res := [.cell 6 true 2], body :=
 (.seq (.region [⟨(some 6), none, (.alloc [(.int .i64 0), (.int .i64 0)]), []⟩])
 (.seq (.seq (.region [⟨(some 7), none, .mov, [.tm 2]⟩])
 (.block 0 (.seq (.region [⟨(some 9), none, (.cmp .eql), [.tm 7, .cn (.int .i64 0)]⟩,
  ⟨(some 8), none, .mov, [.tm 9]⟩])
 (.cond (.tm 8) (.seq (.region [⟨(some 10), none, .mov, [.tm 0]⟩,
  ⟨(some 11), none, .mov, [.tm 1]⟩,
  ⟨(some 12), none, (.ari .add), [.tm 10, .tm 11]⟩,
  ⟨(some 13), none, .mov, [.tm 0]⟩,
  ⟨(some 14), none, .mov, [.tm 1]⟩,
  ⟨(some 15), none, (.ari .add), [.tm 13, .tm 14]⟩,
  ⟨(some 16), none, (.call 22), [.tm 12, .tm 15]⟩,
  ⟨none, none, (.store 2), [.tm 6, .tm 16]⟩])
 .ret)
  (.seq (.region [⟨(some 18), none, (.cmp .eql), [.tm 7, .cn (.int .i64 1)]⟩,
  ⟨(some 17), none, .mov, [.tm 18]⟩])
 (.cond (.tm 17) (.seq (.region [⟨(some 19), none, .mov, [.tm 0]⟩,
  ⟨(some 20), none, .mov, [.tm 1]⟩,
  ⟨(some 21), none, (.ari .sub), [.tm 19, .tm 20]⟩,
  ⟨(some 22), none, .mov, [.tm 0]⟩,
  ⟨(some 23), none, .mov, [.tm 1]⟩,
  ⟨(some 24), none, (.ari .sub), [.tm 22, .tm 23]⟩,
  ⟨(some 25), none, (.call 22), [.tm 21, .tm 24]⟩,
  ⟨none, none, (.store 2), [.tm 6, .tm 25]⟩])
 .ret)
  (.seq (.region [⟨(some 27), none, (.cmp .eql), [.tm 7, .cn (.int .i64 2)]⟩,
  ⟨(some 26), none, .mov, [.tm 27]⟩])
 (.cond (.tm 26) (.seq (.region [⟨(some 28), none, .mov, [.tm 0]⟩,
  ⟨(some 29), none, .mov, [.tm 1]⟩,
  ⟨(some 30), none, (.ari .mul), [.tm 28, .tm 29]⟩,
  ⟨(some 31), none, .mov, [.tm 0]⟩,
  ⟨(some 32), none, .mov, [.tm 1]⟩,
  ⟨(some 33), none, (.ari .mul), [.tm 31, .tm 32]⟩,
  ⟨(some 34), none, (.call 22), [.tm 30, .tm 33]⟩,
  ⟨none, none, (.store 2), [.tm 6, .tm 34]⟩])
 .ret)
  .skip))))))))
 (.seq (.region [⟨(some 35), none, .mov, [.tm 0]⟩,
  ⟨(some 36), none, .mov, [.tm 1]⟩,
  ⟨(some 37), none, (.call 63), [.tm 35, .tm 36]⟩,
  ⟨(some 38), none, .mov, [.tm 0]⟩,
  ⟨(some 39), none, .neg, [.tm 38]⟩,
  ⟨(some 40), none, .mov, [.tm 1]⟩,
  ⟨(some 41), none, (.call 63), [.tm 39, .tm 40]⟩,
  ⟨(some 42), none, .neg, [.tm 41]⟩,
  ⟨(some 43), none, (.call 22), [.tm 37, .tm 42]⟩,
  ⟨none, none, (.store 2), [.tm 6, .tm 43]⟩])
 .ret))) }
theorem v28_is : vfunc Try.prog Try.f28 = some v28 := by kernel_rfl
def v29 : VF := { ntmps := 49, res := [.cell 6 true 2], body :=
 (.seq (.region [⟨(some 3), none, .box, [.tm 0]⟩,
  ⟨(some 4), none, .box, [.tm 1]⟩,
  ⟨(some 6), none, (.alloc [(.int .i64 0), (.int .i64 0)]), []⟩])
 (.seq (.region [⟨(some 12), none, (.build [(.int .i64 0), (.int .i64 0)] []), []⟩,
  ⟨(some 7), none, (.alloc [(.int .i64 0), (.int .i64 0)]), []⟩,
  ⟨none, none, (.store 2), [.tm 7, .tm 12]⟩])
 (.seq (.seq (.region [⟨(some 8), none, .mov, [.cn (.int .i64 0)]⟩])
 (.block 0 (.loop (.seq (.seq (.region [⟨(some 13), none, .mov, [.tm 8]⟩,
  ⟨(some 14), none, (.cmp .lss), [.tm 13, .cn (.int .i64 4)]⟩])
 (.cond (.tm 14) .skip
  (.exit 0)))
 (.seq (.block 1 (.seq (.draw [] [⟨⟨(some 17), none, (.fieldAddr 0), [.tm 3]⟩, []⟩,
  ⟨⟨(some 18), none, (.load false 1), [.tm 17]⟩, []⟩,
  ⟨⟨(some 19), none, (.fieldAddr 0), [.tm 4]⟩, []⟩,
  ⟨⟨(some 20), none, (.load false 1), [.tm 19]⟩, []⟩,
  ⟨⟨(some 9), none, .mov, [.tm 18]⟩, []⟩,
  ⟨⟨(some 10), none, .mov, [.tm 20]⟩, []⟩])
 (.seq (.seq (.region [⟨(some 21), none, .mov, [.tm 8]⟩,
  ⟨(some 22), none, .rem, [.tm 21, .cn (.int .i64 2)]⟩,
  ⟨(some 23), none, (.cmp .eql), [.tm 22, .cn (.int .i64 1)]⟩])
 (.cond (.tm 23) (.region [⟨(some 24), none, (.fieldAddr 1), [.tm 3]⟩,
  ⟨(some 25), none, (.load false 1), [.tm 24]⟩,
  ⟨(some 9), none, .mov, [.tm 25]⟩])
  .skip))
 (.seq (.seq (.region [⟨(some 26), none, .mov, [.tm 8]⟩,
  ⟨(some 27), none, (.cmp .gtr), [.tm 26, .cn (.int .i64 1)]⟩])
 (.cond (.tm 27) (.region [⟨(some 28), none, (.fieldAddr 1), [.tm 4]⟩,
  ⟨(some 29), none, (.load false 1), [.tm 28]⟩,
  ⟨(some 10), none, .mov, [.tm 29]⟩])
  .skip))
 (.seq (.region [⟨(some 30), none, .mov, [.tm 9]⟩,
  ⟨(some 31), none, .mov, [.tm 10]⟩,
  ⟨(some 32), none, .mov, [.tm 2]⟩,
  ⟨(some 33), none, (.call 28), [.tm 30, .tm 31, .tm 32]⟩,
  ⟨(some 11), none, (.alloc [(.int .i64 0), (.int .i64 0)]), []⟩,
  ⟨none, none, (.store 2), [.tm 11, .tm 33]⟩])
 (.seq (.seq (.region [⟨(some 34), none, .mov, [.tm 8]⟩,
  ⟨(some 35), none, (.cmp .eql), [.tm 34, .cn (.int .i64 0)]⟩])
 (.cond (.tm 35) (.region [⟨(some 36), none, (.load true 2), [.tm 11]⟩,
  ⟨none, none, (.store 2), [.tm 7, .tm 36]⟩])
  .skip))
 (.region [⟨(some 37), none, (.fieldAddr 0), [.tm 7]⟩,
  ⟨(some 38), none, (.load false 1), [.tm 37]⟩,
  ⟨(some 39), none, (.fieldAddr 0), [.tm 11]⟩,
  ⟨(some 40), none, (.load false 1), [.tm 39]⟩,
  ⟨(some 41), none, .min, [.tm 38, .tm 40]⟩,
  ⟨(some 42), none, (.fieldAddr 1), [.tm 7]⟩,
  ⟨(some 43), none, (.load false 1), [.tm 42]⟩,
  ⟨(some 44), none, (.fieldAddr 1), [.tm 11]⟩,
  ⟨(some 45), none, (.load false 1), [.tm 44]⟩,
  ⟨(some 46), none, .max, [.tm 43, .tm 45]⟩,
  ⟨(some 47), none, (.call 22), [.tm 41, .tm 46]⟩,
  ⟨none, none, (.store 2), [.tm 7, .tm 47]⟩])))))))
 (.region [⟨(some 15), none, .mov, [.tm 8]⟩,
  ⟨(some 16), none, (.ari .add), [.tm 15, .cn (.int .i64 1)]⟩,
  ⟨(some 8), none, .mov, [.tm 16]⟩]))))))
 (.seq (.region [⟨(some 48), none, (.load true 2), [.tm 7]⟩,
  ⟨none, none, (.store 2), [.tm 6, .tm 48]⟩])
 .ret)))) }
theorem v29_is : vfunc Try.prog Try.f29 = some v29 := by kernel_rfl


def ofF (x y n : Int) : Int := min x y + n % (max x y - min x y + 1)
def ofiC : Ctr := { alias := false, of := fun l => match l with
  | [.agg [.int .i32 x, .int .i32 y], .int .u32 n] => .pre ((-2147483648 ≤ x ∧ x ≤ 2147483647) ∧ (-2147483648 ≤ y ∧ y ≤ 2147483647) ∧ 0 ≤ n ∧ n < 4294967296) (.fin (.tup [.agg (enc2 (min x y, max x y)), .int .i64 (ofF x y n)]) [])
  | _ => noC }
def inC : Ctr := { alias := false, of := fun l => match l with
  | [.int .i64 n, .agg [.int .i64 x, .int .i64 y]] => .fin (.bool (decide (x ≤ n) && decide (n ≤ y))) []
  | _ => noC }
def sm (x : Int) : Prop := -8589934592 ≤ x ∧ x ≤ 8589934592
def downC : Ctr := { alias := false, of := fun l => match l with
  | [.int .i64 x, .int .i64 y] => .pre (sm x ∧ sm y ∧ y ≠ 0) (.fin (.int .i64 (dnF x y)) [])
  | _ => noC }
def valC : Ctr := { alias := false, of := fun l => match l with
  | [.int .i64 x, .int .i64 y, .int .i64 w] => .pre ((-2147483648 ≤ x ∧ x ≤ 2147483647) ∧ (-2147483648 ≤ y ∧ y ≤ 2147483647) ∧ (y ≠ 0 ∨ w = 0 ∨ w = 1 ∨ w = 2)) (.fin (.agg (enc2 (valF x y w))) [])
  | _ => noC }

theorem idx0 : idxN 0 1 = 0 := rfl
theorem ans_iv1 {k : SV → List HO → Prop} {al : Bool} {hp : List HO} {r : Iv} (h : k (.agg (enc2 r)) []) : answers al k (.agg [.int .i64 r.1, .int .i64 r.2]) hp :=
  ans_le (show k _ [] from h) (le_self (.agg (enc2 r)) ⟨trivial, trivial, trivial⟩) (fun _ => by simp [enc2, freshS, freshL])

theorem ofi_ok : ofiC.ok Try.prog 21 := by
  refine contract Try.func21 v21_is A0_ok 100 ofiC fun args k h => ⟨args, ?_⟩
  simp only [ofiC] at h
  split at h
  · rename_i x y n
    obtain ⟨⟨hx, hy, hn⟩, h⟩ := h
    refine ⟨by simp [leL, le], ?_⟩
    dsimp only [v21, A0_ct22, mkivC, r_end, r_end1, r_nil, r_op, r_opg, r_runOp, r_op0, r_yld0, r_yld1, r_y, r_rbeg, r_rend, r_rend1, r_rfrm, r_rfrm1, r_range, r_rangeK, r_rangeE, r_draw, r_dnil, r_dop, r_dopg, r_dplq, r_dplh, r_dq, r_dq0, r_dcl1, r_dcl0, r_dct1, r_dct0, r_dgd, r_dgq1, r_dgq0, r_dctG, r_op1, r_eff, r_eff0, r_call, r_call0, r_inl, r_g, r_gq, r_gc, r_effg, r_effg0, r_callg, r_callg0, r_fin, r_pre, r_imp, r_all, r_ex, r_fing, r_preg, r_exg, r_inBlock, r_inLoop, r_frame, r_frame1, r_skip, r_stuck, r_region, r_seq, r_cond, r_cond1, r_block, r_exit, r_exit1, r_exit2, r_ret, r_loop, s_args0, s_args1, s_xt, s_xc, padL, blankL, callee, callArgs, eff, ctOf, getL, setL, S.put, S.upd, unopts, unopt, unoptsO, unoptsB, lazyO, guardOf, gbool, eMov, eNot, eNeg, eConv, eExt, eLenArr, eLen, eLenStr, eEqb, eEqv, allEq, eNil, negIf, eBool2, eCmp, eAri, ari, eBit, eDiv, eSh, eMinMax, foldMin, foldMax, kEq, pure1, cmpB, VO.quiet, resVals, resVal, tupled, popRet, popTo, cond, Option.bind, Option.map, eNew, eBox, asCells, lenH, snocH, eFieldAddr, eField, eLoad, cellsAt, getH, setH, dropL, takeL, mkAgg, lenL, lenS, shift, shiftL, shiftH, viewN, viewL, view, andT, junks, List.append_nil, Nat.beq, eIdxAddr, eIdxArr, idxN_0, idxN_1, idxN_2, idxN_3, eIndex, eStore, storeAt, spliceL, ones, one, eSlice, eSliceArr, bounds, subLo_z, addLo_z, subLo_one, addLo_one, eMake, eAppend, readS, repL, buildCells, chunk, purgeL, purgeLL, purgeH, purge, refs, refsL, List.cons_append, List.nil_append, wrOps, wrAl, wrDops, wrC, junkAt, putAll, putHs, headOf, headK, keepG, List.append_eq, headX, chkP, apartP, apartB, blk, strip, runAl, AL.ho, yld, putPs, lenN, findR, notRound, jumpK, jumpPT, jcode, List.map_cons, List.map_nil, ite_self, reduceIte]
    simp only [true_and, and_true, imp_self, implies_true, decide_eq_true_eq, decide_eq_false_iff_not, Nat.reduceAdd, Nat.reduceLeDiff, Bool.not_not, reduceCtorEq, false_imp_iff, Bool.not_eq_true', Bool.not_eq_false', Bool.false_eq_true, and_self, forall_const, ne_eq, not_false_eq_true, Nat.reduceEqDiff]
    iterate 4 (try dsimp only [idx0, A0_ct22, mkivC, enc2, r_end, r_end1, r_nil, r_op, r_opg, r_runOp, r_op0, r_yld0, r_yld1, r_y, r_rbeg, r_rend, r_rend1, r_rfrm, r_rfrm1, r_range, r_rangeK, r_rangeE, r_draw, r_dnil, r_dop, r_dopg, r_dplq, r_dplh, r_dq, r_dq0, r_dcl1, r_dcl0, r_dct1, r_dct0, r_dgd, r_dgq1, r_dgq0, r_dctG, r_op1, r_eff, r_eff0, r_call, r_call0, r_inl, r_g, r_gq, r_gc, r_effg, r_effg0, r_callg, r_callg0, r_fin, r_pre, r_imp, r_all, r_ex, r_fing, r_preg, r_exg, r_inBlock, r_inLoop, r_frame, r_frame1, r_skip, r_stuck, r_region, r_seq, r_cond, r_cond1, r_block, r_exit, r_exit1, r_exit2, r_ret, r_loop, s_args0, s_args1, s_xt, s_xc, padL, blankL, callee, callArgs, eff, ctOf, getL, setL, S.put, S.upd, unopts, unopt, unoptsO, unoptsB, lazyO, guardOf, gbool, eMov, eNot, eNeg, eConv, eExt, eLenArr, eLen, eLenStr, eEqb, eEqv, allEq, eNil, negIf, eBool2, eCmp, eAri, ari, eBit, eDiv, eSh, eMinMax, foldMin, foldMax, kEq, pure1, cmpB, VO.quiet, resVals, resVal, tupled, popRet, popTo, cond, Option.bind, Option.map, eNew, eBox, asCells, lenH, snocH, eFieldAddr, eField, eLoad, cellsAt, getH, setH, dropL, takeL, mkAgg, lenL, lenS, shift, shiftL, shiftH, viewN, viewL, view, andT, junks, List.append_nil, Nat.beq, eIdxAddr, eIdxArr, idxN_0, idxN_1, idxN_2, idxN_3, eIndex, eStore, storeAt, spliceL, ones, one, eSlice, eSliceArr, bounds, subLo_z, addLo_z, subLo_one, addLo_one, eMake, eAppend, readS, repL, buildCells, chunk, purgeL, purgeLL, purgeH, purge, refs, refsL, List.cons_append, List.nil_append, wrOps, wrAl, wrDops, wrC, junkAt, putAll, putHs, headOf, headK, keepG, List.append_eq, headX, chkP, apartP, apartB, blk, strip, runAl, AL.ho, yld, putPs, lenN, findR, notRound, jumpK, jumpPT, jcode, List.map_cons, List.map_nil, ite_self, reduceIte]); (try simp only [true_and, and_true, imp_self, implies_true, decide_eq_true_eq, decide_eq_false_iff_not, Nat.reduceAdd, Nat.reduceLeDiff, Bool.not_not, reduceCtorEq, false_imp_iff, Bool.not_eq_true', Bool.not_eq_false', Bool.false_eq_true, and_self, forall_const, ne_eq, not_false_eq_true, Nat.reduceEqDiff])
    have h' : k (.tup [.agg (enc2 (min x y, max x y)), .int .i64 (ofF x y n)]) [] := h
    unfold ofF at h'
    have e1 : -2147483648 ≤ min x y ∧ min x y ≤ max x y ∧ max x y ≤ 2147483647 := by omega
    generalize min x y = m at *
    generalize max x y = M at *
    have t : n.tmod (M - m + 1) = n % (M - m + 1) := Int.tmod_eq_emod_of_nonneg hn.1
    have b : 0 ≤ n % (M - m + 1) ∧ n % (M - m + 1) < M - m + 1 := ⟨Int.emod_nonneg _ (by omega), Int.emod_lt_of_pos _ (by omega)⟩
    generalize n % (M - m + 1) = d at *
    have w1 : IntKind.i64.wrap m = m := IntWalk.i64_in _ (by omega)
    have w2 : IntKind.i64.wrap M = M := IntWalk.i64_in _ (by omega)
    have w3 : IntKind.i64.wrap (M - m) = M - m := IntWalk.i64_in _ (by omega)
    have w4 : IntKind.i64.wrap (M - m + 1) = M - m + 1 := IntWalk.i64_in _ (by omega)
    have w5 : IntKind.i64.wrap n = n := IntWalk.i64_in _ (by omega)
    have w6 : IntKind.i64.wrap (m + d) = m + d := IntWalk.i64_in _ (by omega)
    simp only [w1, w2, w3, w4, w5, t, w6]
    exact ⟨by decide, by decide, by decide, by decide, by omega, ans_iv (r := ((m, M), _)) h'⟩
  · exact h.1.elim

theorem in_ok : inC.ok Try.prog 27 := by
  refine contract Try.func27 v27_is A0_ok 100 inC fun args k h => ⟨args, ?_⟩
  simp only [inC] at h
  split at h
  · rename_i n x y
    refine ⟨by simp [leL, le], ?_⟩
    dsimp only [v27, r_end, r_end1, r_nil, r_op, r_opg, r_runOp, r_op0, r_yld0, r_yld1, r_y, r_rbeg, r_rend, r_rend1, r_rfrm, r_rfrm1, r_range, r_rangeK, r_rangeE, r_draw, r_dnil, r_dop, r_dopg, r_dplq, r_dplh, r_dq, r_dq0, r_dcl1, r_dcl0, r_dct1, r_dct0, r_dgd, r_dgq1, r_dgq0, r_dctG, r_op1, r_eff, r_eff0, r_call, r_call0, r_inl, r_g, r_gq, r_gc, r_effg, r_effg0, r_callg, r_callg0, r_fin, r_pre, r_imp, r_all, r_ex, r_fing, r_preg, r_exg, r_inBlock, r_inLoop, r_frame, r_frame1, r_skip, r_stuck, r_region, r_seq, r_cond, r_cond1, r_block, r_exit, r_exit1, r_exit2, r_ret, r_loop, s_args0, s_args1, s_xt, s_xc, padL, blankL, callee, callArgs, eff, ctOf, getL, setL, S.put, S.upd, unopts, unopt, unoptsO, unoptsB, lazyO, guardOf, gbool, eMov, eNot, eNeg, eConv, eExt, eLenArr, eLen, eLenStr, eEqb, eEqv, allEq, eNil, negIf, eBool2, eCmp, eAri, ari, eBit, eDiv, eSh, eMinMax, foldMin, foldMax, kEq, pure1, cmpB, VO.quiet, resVals, resVal, tupled, popRet, popTo, cond, Option.bind, Option.map, eNew, eBox, asCells, lenH, snocH, eFieldAddr, eField, eLoad, cellsAt, getH, setH, dropL, takeL, mkAgg, lenL, lenS, shift, shiftL, shiftH, viewN, viewL, view, andT, junks, List.append_nil, Nat.beq, eIdxAddr, eIdxArr, idxN_0, idxN_1, idxN_2, idxN_3, eIndex, eStore, storeAt, spliceL, ones, one, eSlice, eSliceArr, bounds, subLo_z, addLo_z, subLo_one, addLo_one, eMake, eAppend, readS, repL, buildCells, chunk, purgeL, purgeLL, purgeH, purge, refs, refsL, List.cons_append, List.nil_append, wrOps, wrAl, wrDops, wrC, junkAt, putAll, putHs, headOf, headK, keepG, List.append_eq, headX, chkP, apartP, apartB, blk, strip, runAl, AL.ho, yld, putPs, lenN, findR, notRound, jumpK, jumpPT, jcode, List.map_cons, List.map_nil, ite_self, reduceIte]
    simp only [true_and, and_true, imp_self, implies_true, decide_eq_true_eq, decide_eq_false_iff_not, Nat.reduceAdd, Nat.reduceLeDiff, Bool.not_not, reduceCtorEq, false_imp_iff, Bool.not_eq_true', Bool.not_eq_false', Bool.false_eq_true, and_self, forall_const, ne_eq, not_false_eq_true, Nat.reduceEqDiff]
    exact ans_bool h
  · exact h.1.elim

theorem down_ok : downC.ok Try.prog 63 := by
  refine contract Try.func63 v63_is A0_ok 100 downC fun args k h => ⟨args, ?_⟩
  simp only [downC] at h
  split at h
  · rename_i x y
    obtain ⟨⟨hx, hy, h0⟩, h⟩ := h
    refine ⟨by simp [leL, le], ?_⟩
    dsimp only [v63, r_end, r_end1, r_nil, r_op, r_opg, r_runOp, r_op0, r_yld0, r_yld1, r_y, r_rbeg, r_rend, r_rend1, r_rfrm, r_rfrm1, r_range, r_rangeK, r_rangeE, r_draw, r_dnil, r_dop, r_dopg, r_dplq, r_dplh, r_dq, r_dq0, r_dcl1, r_dcl0, r_dct1, r_dct0, r_dgd, r_dgq1, r_dgq0, r_dctG, r_op1, r_eff, r_eff0, r_call, r_call0, r_inl, r_g, r_gq, r_gc, r_effg, r_effg0, r_callg, r_callg0, r_fin, r_pre, r_imp, r_all, r_ex, r_fing, r_preg, r_exg, r_inBlock, r_inLoop, r_frame, r_frame1, r_skip, r_stuck, r_region, r_seq, r_cond, r_cond1, r_block, r_exit, r_exit1, r_exit2, r_ret, r_loop, s_args0, s_args1, s_xt, s_xc, padL, blankL, callee, callArgs, eff, ctOf, getL, setL, S.put, S.upd, unopts, unopt, unoptsO, unoptsB, lazyO, guardOf, gbool, eMov, eNot, eNeg, eConv, eExt, eLenArr, eLen, eLenStr, eEqb, eEqv, allEq, eNil, negIf, eBool2, eCmp, eAri, ari, eBit, eDiv, eSh, eMinMax, foldMin, foldMax, kEq, pure1, cmpB, VO.quiet, resVals, resVal, tupled, popRet, popTo, cond, Option.bind, Option.map, eNew, eBox, asCells, lenH, snocH, eFieldAddr, eField, eLoad, cellsAt, getH, setH, dropL, takeL, mkAgg, lenL, lenS, shift, shiftL, shiftH, viewN, viewL, view, andT, junks, List.append_nil, Nat.beq, eIdxAddr, eIdxArr, idxN_0, idxN_1, idxN_2, idxN_3, eIndex, eStore, storeAt, spliceL, ones, one, eSlice, eSliceArr, bounds, subLo_z, addLo_z, subLo_one, addLo_one, eMake, eAppend, readS, repL, buildCells, chunk, purgeL, purgeLL, purgeH, purge, refs, refsL, List.cons_append, List.nil_append, wrOps, wrAl, wrDops, wrC, junkAt, putAll, putHs, headOf, headK, keepG, List.append_eq, headX, chkP, apartP, apartB, blk, strip, runAl, AL.ho, yld, putPs, lenN, findR, notRound, jumpK, jumpPT, jcode, List.map_cons, List.map_nil, ite_self, reduceIte]
    simp only [true_and, and_true, imp_self, implies_true, decide_eq_true_eq, decide_eq_false_iff_not, Nat.reduceAdd, Nat.reduceLeDiff, Bool.not_not, reduceCtorEq, false_imp_iff, Bool.not_eq_true', Bool.not_eq_false', Bool.false_eq_true, and_self, forall_const, ne_eq, not_false_eq_true, Nat.reduceEqDiff]
    have e := dn_eq (x := x) h0
    have b := dn_abs (M := 8589934592) hx h0
    refine ⟨h0, h0, fun hc => ans_int ?_, fun hc => ans_int ?_⟩
    · rw [if_pos hc] at e
      rw [IntWalk.i64_in (x.tdiv y) (by omega), IntWalk.i64_in _ (by omega), e]; exact h
    · rw [if_neg (by rw [hc]; decide)] at e
      rw [IntWalk.i64_in (x.tdiv y) (by omega), e]; exact h
  · exact h.1.elim

def A2 : Env := { ct := fun n => match n with | 22 => some mkivC | 63 => some downC | _ => none, fn := fun _ => none, meth := fun _ _ => none }
theorem A2_ct22 : A2.ct 22 = some mkivC := rfl
theorem A2_ct63 : A2.ct 63 = some downC := rfl
theorem A2_ok : EnvOk Try.prog A2 := by
  refine ⟨fun f c h => ?_, fun f vf h => ?_, fun _ _ => rfl, by kernel_rfl⟩
  · simp only [A2] at h
    split at h
    · cases h; exact ⟨mkiv_ok, Try.f22, Try.func22, by kernel_rfl, by kernel_rfl⟩
    · cases h; exact ⟨down_ok, Try.f63, Try.func63, by kernel_rfl, by kernel_rfl⟩
    · cases h
  · cases h


theorem val_ok : valC.ok Try.prog 28 := by
  refine contract Try.func28 v28_is A2_ok 100 valC fun args k h => ⟨args, ?_⟩
  simp only [valC] at h
  split at h
  · rename_i x y w
    obtain ⟨⟨hx, hy, h0⟩, h⟩ := h
    refine ⟨by simp [leL, le], ?_⟩
    dsimp only [v28, A2_ct22, A2_ct63, mkivC, downC, enc2, r_end, r_end1, r_nil, r_op, r_opg, r_runOp, r_op0, r_yld0, r_yld1, r_y, r_rbeg, r_rend, r_rend1, r_rfrm, r_rfrm1, r_range, r_rangeK, r_rangeE, r_draw, r_dnil, r_dop, r_dopg, r_dplq, r_dplh, r_dq, r_dq0, r_dcl1, r_dcl0, r_dct1, r_dct0, r_dgd, r_dgq1, r_dgq0, r_dctG, r_op1, r_eff, r_eff0, r_call, r_call0, r_inl, r_g, r_gq, r_gc, r_effg, r_effg0, r_callg, r_callg0, r_fin, r_pre, r_imp, r_all, r_ex, r_fing, r_preg, r_exg, r_inBlock, r_inLoop, r_frame, r_frame1, r_skip, r_stuck, r_region, r_seq, r_cond, r_cond1, r_block, r_exit, r_exit1, r_exit2, r_ret, r_loop, s_args0, s_args1, s_xt, s_xc, padL, blankL, callee, callArgs, eff, ctOf, getL, setL, S.put, S.upd, unopts, unopt, unoptsO, unoptsB, lazyO, guardOf, gbool, eMov, eNot, eNeg, eConv, eExt, eLenArr, eLen, eLenStr, eEqb, eEqv, allEq, eNil, negIf, eBool2, eCmp, eAri, ari, eBit, eDiv, eSh, eMinMax, foldMin, foldMax, kEq, pure1, cmpB, VO.quiet, resVals, resVal, tupled, popRet, popTo, cond, Option.bind, Option.map, eNew, eBox, asCells, lenH, snocH, eFieldAddr, eField, eLoad, cellsAt, getH, setH, dropL, takeL, mkAgg, lenL, lenS, shift, shiftL, shiftH, viewN, viewL, view, andT, junks, List.append_nil, Nat.beq, eIdxAddr, eIdxArr, idxN_0, idxN_1, idxN_2, idxN_3, eIndex, eStore, storeAt, spliceL, ones, one, eSlice, eSliceArr, bounds, subLo_z, addLo_z, subLo_one, addLo_one, eMake, eAppend, readS, repL, buildCells, chunk, purgeL, purgeLL, purgeH, purge, refs, refsL, List.cons_append, List.nil_append, wrOps, wrAl, wrDops, wrC, junkAt, putAll, putHs, headOf, headK, keepG, List.append_eq, headX, chkP, apartP, apartB, blk, strip, runAl, AL.ho, yld, putPs, lenN, findR, notRound, jumpK, jumpPT, jcode, List.map_cons, List.map_nil, ite_self, reduceIte]
    simp only [true_and, and_true, imp_self, implies_true, decide_eq_true_eq, decide_eq_false_iff_not, Nat.reduceAdd, Nat.reduceLeDiff, Bool.not_not, reduceCtorEq, false_imp_iff, Bool.not_eq_true', Bool.not_eq_false', Bool.false_eq_true, and_self, forall_const, ne_eq, not_false_eq_true, Nat.reduceEqDiff]
    have h' : k (.agg (enc2 (valF x y w))) [] := h
    have m := mul_bnd (M := 2147483648) (N := 2147483648) (a := x) (b := y) (by omega) (by omega)
    have en : IntKind.i64.wrap (0 - x) = -x := by rw [IntWalk.i64_in _ (by omega)]; omega
    rw [en]
    refine ⟨fun c => ?_, fun c => ⟨fun c1 => ?_, fun c1 => ⟨fun c2 => ?_, fun c2 => ⟨by unfold sm; omega, by unfold sm; omega, ?_⟩⟩⟩⟩
    · rw [IntWalk.i64_in (x + y) (by omega)]
      rw [valF, if_pos c] at h'; exact ans_iv1 h'
    · rw [IntWalk.i64_in (x - y) (by omega)]
      rw [valF, if_neg c, if_pos c1] at h'; exact ans_iv1 h'
    · rw [IntWalk.i64_in (x * y) (by omega)]
      rw [valF, if_neg c, if_neg c1, if_pos c2] at h'; exact ans_iv1 h'
    · have b := dn_abs (M := 2147483648) (x := -x) (y := y) (by omega) (by omega)
      have e2 : IntKind.i64.wrap (0 - dnF (-x) y) = -dnF (-x) y := by rw [IntWalk.i64_in _ (by omega)]; omega
      rw [e2]
      rw [valF, if_neg c, if_neg c1, if_neg c2] at h'; exact ans_iv1 h'
  · exact h.1.elim

def corAt (a b : Iv) (i : Nat) : Iv := (if i % 2 = 1 then a.2 else a.1, if 1 < i then b.2 else b.1)
def corS (a b : Iv) (w : Int) : Nat → Iv
  | 0 => (0, 0)
  | i + 1 => (min (if i = 0 then (valF (corAt a b i).1 (corAt a b i).2 w).1 else (corS a b w i).1) (valF (corAt a b i).1 (corAt a b i).2 w).1, max (if i = 0 then (valF (corAt a b i).1 (corAt a b i).2 w).2 else (corS a b w i).2) (valF (corAt a b i).1 (corAt a b i).2 w).2)
theorem corS_4 (a b : Iv) (w : Int) : corS a b w 4 = corP a b w := by
  simp only [corS, corAt, corP, lo4, hi4]
  simp
def in31 (x : Int) : Prop := -2147483648 ≤ x ∧ x ≤ 2147483647
def corC : Ctr := { alias := false, of := fun l => match l with
  | [.agg [.int .i64 x, .int .i64 y], .agg [.int .i64 z, .int .i64 t], .int .i64 w] => .pre ((in31 x ∧ in31 y ∧ in31 z ∧ in31 t) ∧ ((z ≠ 0 ∧ t ≠ 0) ∨ w = 0 ∨ w = 1 ∨ w = 2)) (.fin (.agg (enc2 (corP (x, y) (z, t) w))) [])
  | _ => noC }

def A3 : Env := { ct := fun n => match n with | 22 => some mkivC | 28 => some valC | _ => none, fn := fun _ => none, meth := fun _ _ => none }
theorem A3_ct22 : A3.ct 22 = some mkivC := rfl
theorem A3_ct28 : A3.ct 28 = some valC := rfl
theorem A3_ok : EnvOk Try.prog A3 := by
  refine ⟨fun f c h => ?_, fun f vf h => ?_, fun _ _ => rfl, by kernel_rfl⟩
  · simp only [A3] at h
    split at h
    · cases h; exact ⟨mkiv_ok, Try.f22, Try.func22, by kernel_rfl, by kernel_rfl⟩
    · cases h; exact ⟨val_ok, Try.f28, Try.func28, by kernel_rfl, by kernel_rfl⟩
    · cases h
  · cases h


theorem cor_ok : corC.ok Try.prog 29 := by
  refine contract Try.func29 v29_is A3_ok 400 corC fun args k h => ⟨args, ?_⟩
  simp only [corC] at h
  split at h
  · rename_i x y z t w
    obtain ⟨⟨⟨hx, hy, hz, ht⟩, h0⟩, h⟩ := h
    refine ⟨by simp [leL, le], ?_⟩
    dsimp only [v29, A3_ct22, A3_ct28, mkivC, valC, enc2, r_end, r_end1, r_nil, r_op, r_opg, r_runOp, r_op0, r_yld0, r_yld1, r_y, r_rbeg, r_rend, r_rend1, r_rfrm, r_rfrm1, r_range, r_rangeK, r_rangeE, r_draw, r_dnil, r_dop, r_dopg, r_dplq, r_dplh, r_dq, r_dq0, r_dcl1, r_dcl0, r_dct1, r_dct0, r_dgd, r_dgq1, r_dgq0, r_dctG, r_op1, r_eff, r_eff0, r_call, r_call0, r_inl, r_g, r_gq, r_gc, r_effg, r_effg0, r_callg, r_callg0, r_fin, r_pre, r_imp, r_all, r_ex, r_fing, r_preg, r_exg, r_inBlock, r_inLoop, r_frame, r_frame1, r_skip, r_stuck, r_region, r_seq, r_cond, r_cond1, r_block, r_exit, r_exit1, r_exit2, r_ret, r_loop, s_args0, s_args1, s_xt, s_xc, padL, blankL, callee, callArgs, eff, ctOf, getL, setL, S.put, S.upd, unopts, unopt, unoptsO, unoptsB, lazyO, guardOf, gbool, eMov, eNot, eNeg, eConv, eExt, eLenArr, eLen, eLenStr, eEqb, eEqv, allEq, eNil, negIf, eBool2, eCmp, eAri, ari, eBit, eDiv, eSh, eMinMax, foldMin, foldMax, kEq, pure1, cmpB, VO.quiet, resVals, resVal, tupled, popRet, popTo, cond, Option.bind, Option.map, eNew, eBox, asCells, lenH, snocH, eFieldAddr, eField, eLoad, cellsAt, getH, setH, dropL, takeL, mkAgg, lenL, lenS, shift, shiftL, shiftH, viewN, viewL, view, andT, junks, List.append_nil, Nat.beq, eIdxAddr, eIdxArr, idxN_0, idxN_1, idxN_2, idxN_3, eIndex, eStore, storeAt, spliceL, ones, one, eSlice, eSliceArr, bounds, subLo_z, addLo_z, subLo_one, addLo_one, eMake, eAppend, readS, repL, buildCells, chunk, purgeL, purgeLL, purgeH, purge, refs, refsL, List.cons_append, List.nil_append, wrOps, wrAl, wrDops, wrC, junkAt, putAll, putHs, headOf, headK, keepG, List.append_eq, headX, chkP, apartP, apartB, blk, strip, runAl, AL.ho, yld, putPs, lenN, findR, notRound, jumpK, jumpPT, jcode, List.map_cons, List.map_nil, ite_self, reduceIte]
    simp only [true_and, and_true, imp_self, implies_true, decide_eq_true_eq, decide_eq_false_iff_not, Nat.reduceAdd, Nat.reduceLeDiff, Bool.not_not, reduceCtorEq, false_imp_iff, Bool.not_eq_true', Bool.not_eq_false', Bool.false_eq_true, and_self, forall_const, ne_eq, not_false_eq_true, Nat.reduceEqDiff]
    refine Loop.keep [0, 0, 0, 0, 0, 1, 0, 0] Nat (fun i => [(8, .int .i64 i)]) (fun i => [(3, .box [.int .i64 (corS (x, y) (z, t) w i).1, .int .i64 (corS (x, y) (z, t) w i).2])]) [] (fun i => i ≤ 4) (fun i => 4 - i) ?_ ?_
    · refine ⟨0, by omega, ?_⟩
      dsimp only [corS, r_end, r_end1, r_nil, r_op, r_opg, r_runOp, r_op0, r_yld0, r_yld1, r_y, r_rbeg, r_rend, r_rend1, r_rfrm, r_rfrm1, r_range, r_rangeK, r_rangeE, r_draw, r_dnil, r_dop, r_dopg, r_dplq, r_dplh, r_dq, r_dq0, r_dcl1, r_dcl0, r_dct1, r_dct0, r_dgd, r_dgq1, r_dgq0, r_dctG, r_op1, r_eff, r_eff0, r_call, r_call0, r_inl, r_g, r_gq, r_gc, r_effg, r_effg0, r_callg, r_callg0, r_fin, r_pre, r_imp, r_all, r_ex, r_fing, r_preg, r_exg, r_inBlock, r_inLoop, r_frame, r_frame1, r_skip, r_stuck, r_region, r_seq, r_cond, r_cond1, r_block, r_exit, r_exit1, r_exit2, r_ret, r_loop, s_args0, s_args1, s_xt, s_xc, padL, blankL, callee, callArgs, eff, ctOf, getL, setL, S.put, S.upd, unopts, unopt, unoptsO, unoptsB, lazyO, guardOf, gbool, eMov, eNot, eNeg, eConv, eExt, eLenArr, eLen, eLenStr, eEqb, eEqv, allEq, eNil, negIf, eBool2, eCmp, eAri, ari, eBit, eDiv, eSh, eMinMax, foldMin, foldMax, kEq, pure1, cmpB, VO.quiet, resVals, resVal, tupled, popRet, popTo, cond, Option.bind, Option.map, eNew, eBox, asCells, lenH, snocH, eFieldAddr, eField, eLoad, cellsAt, getH, setH, dropL, takeL, mkAgg, lenL, lenS, shift, shiftL, shiftH, viewN, viewL, view, andT, junks, List.append_nil, Nat.beq, eIdxAddr, eIdxArr, idxN_0, idxN_1, idxN_2, idxN_3, eIndex, eStore, storeAt, spliceL, ones, one, eSlice, eSliceArr, bounds, subLo_z, addLo_z, subLo_one, addLo_one, eMake, eAppend, readS, repL, buildCells, chunk, purgeL, purgeLL, purgeH, purge, refs, refsL, List.cons_append, List.nil_append, wrOps, wrAl, wrDops, wrC, junkAt, putAll, putHs, headOf, headK, keepG, List.append_eq, headX, chkP, apartP, apartB, blk, strip, runAl, AL.ho, yld, putPs, lenN, findR, notRound, jumpK, jumpPT, jcode, List.map_cons, List.map_nil, ite_self, reduceIte]
      simp only [leS_mk, leL_cons, leL_nil, le_junk, le_int, le_bool, le_nil, leLL_nil, leLL_cons, leH_cons, leH_nil, leH1_box, leH1_own, leH1_gone, le_vs, le_agg, le_tup, le_ptr, le_own, le_xp, le_fn, le_opt, le_val, le_elem, le_nil_own, le_nil_vs, leH_ghost, leL_chunk, leXL_id, bnd_int, bnd_bool, bnd_val, bnd_nil, bnd_junk, bnd_vs, bnd_xp, bnd_agg, bnd_tup, bnd_ptr, bnd_own, bnd_elem, bnd_fn, bnd_iface, bnd_opt, bndL_nil, bndL_cons, lenH_cons, lenH_nil, imp_self, implies_true, true_and, and_true]
      simp
    · rintro i hi
      dsimp only [enc2, Int.toNat_natCast, A3_ct22, A3_ct28, mkivC, valC, r_end, r_end1, r_nil, r_op, r_opg, r_runOp, r_op0, r_yld0, r_yld1, r_y, r_rbeg, r_rend, r_rend1, r_rfrm, r_rfrm1, r_range, r_rangeK, r_rangeE, r_draw, r_dnil, r_dop, r_dopg, r_dplq, r_dplh, r_dq, r_dq0, r_dcl1, r_dcl0, r_dct1, r_dct0, r_dgd, r_dgq1, r_dgq0, r_dctG, r_op1, r_eff, r_eff0, r_call, r_call0, r_inl, r_g, r_gq, r_gc, r_effg, r_effg0, r_callg, r_callg0, r_fin, r_pre, r_imp, r_all, r_ex, r_fing, r_preg, r_exg, r_inBlock, r_inLoop, r_frame, r_frame1, r_skip, r_stuck, r_region, r_seq, r_cond, r_cond1, r_block, r_exit, r_exit1, r_exit2, r_ret, r_loop, s_args0, s_args1, s_xt, s_xc, padL, blankL, callee, callArgs, eff, ctOf, getL, setL, S.put, S.upd, unopts, unopt, unoptsO, unoptsB, lazyO, guardOf, gbool, eMov, eNot, eNeg, eConv, eExt, eLenArr, eLen, eLenStr, eEqb, eEqv, allEq, eNil, negIf, eBool2, eCmp, eAri, ari, eBit, eDiv, eSh, eMinMax, foldMin, foldMax, kEq, pure1, cmpB, VO.quiet, resVals, resVal, tupled, popRet, popTo, cond, Option.bind, Option.map, eNew, eBox, asCells, lenH, snocH, eFieldAddr, eField, eLoad, cellsAt, getH, setH, dropL, takeL, mkAgg, lenL, lenS, shift, shiftL, shiftH, viewN, viewL, view, andT, junks, List.append_nil, Nat.beq, eIdxAddr, eIdxArr, idxN_0, idxN_1, idxN_2, idxN_3, eIndex, eStore, storeAt, spliceL, ones, one, eSlice, eSliceArr, bounds, subLo_z, addLo_z, subLo_one, addLo_one, eMake, eAppend, readS, repL, buildCells, chunk, purgeL, purgeLL, purgeH, purge, refs, refsL, List.cons_append, List.nil_append, wrOps, wrAl, wrDops, wrC, junkAt, putAll, putHs, headOf, headK, keepG, List.append_eq, headX, chkP, apartP, apartB, blk, strip, runAl, AL.ho, yld, putPs, lenN, findR, notRound, jumpK, jumpPT, jcode, List.map_cons, List.map_nil, ite_self, reduceIte]
      simp only [true_and, and_true, imp_self, implies_true, decide_eq_true_eq, decide_eq_false_iff_not, Nat.reduceAdd, Nat.reduceLeDiff, Bool.not_not, reduceCtorEq, false_imp_iff, Bool.not_eq_true', Bool.not_eq_false', Bool.false_eq_true, and_self, forall_const, ne_eq, not_false_eq_true, Nat.reduceEqDiff]
      have e2 : (i : Int).tmod 2 = ((i % 2 : Nat) : Int) := IntWalk.up_tmod (y := 2) rfl rfl
      simp only [e2]
      simp only [in31] at hx hy hz ht
      have h' : k (.agg (enc2 (corP (x, y) (z, t) w))) [] := h
      refine ⟨fun hlt => ⟨by decide, fun p => ⟨fun q => ⟨by omega, fun e => by exfalso; omega, fun e => ?_⟩, fun q => ⟨by omega, fun e => by exfalso; omega, fun e => ?_⟩⟩, fun p => ⟨fun q => ⟨by omega, fun e => by exfalso; omega, fun e => ?_⟩, fun q => ⟨by omega, fun e => ?_, fun e => by exfalso; omega⟩⟩⟩, fun hge => ?_⟩
      · obtain rfl : i = 3 := by omega
        refine ⟨4, by omega, by omega, ?_⟩
        have hw : IntKind.i64.wrap (((3 : Nat) : Int) + 1) = ((4 : Nat) : Int) := by rw [IntWalk.i64_in _ (by omega)]; rfl
        simp only [hw, corS, corAt, leS_mk, leL_cons, leL_nil, le_junk, le_int, le_bool, le_nil, leLL_nil, leLL_cons, leH_cons, leH_nil, leH1_box, leH1_own, leH1_gone, le_vs, le_agg, le_tup, le_ptr, le_own, le_xp, le_fn, le_opt, le_val, le_elem, le_nil_own, le_nil_vs, leH_ghost, leL_chunk, leXL_id, bnd_int, bnd_bool, bnd_val, bnd_nil, bnd_junk, bnd_vs, bnd_xp, bnd_agg, bnd_tup, bnd_ptr, bnd_own, bnd_elem, bnd_fn, bnd_iface, bnd_opt, bndL_nil, bndL_cons, lenH_cons, lenH_nil, imp_self, implies_true, true_and, and_true] <;> simp
      · obtain rfl : i = 1 := by omega
        refine ⟨2, by omega, by omega, ?_⟩
        have hw : IntKind.i64.wrap (((1 : Nat) : Int) + 1) = ((2 : Nat) : Int) := by rw [IntWalk.i64_in _ (by omega)]; rfl
        simp only [hw, corS, corAt, leS_mk, leL_cons, leL_nil, le_junk, le_int, le_bool, le_nil, leLL_nil, leLL_cons, leH_cons, leH_nil, leH1_box, leH1_own, leH1_gone, le_vs, le_agg, le_tup, le_ptr, le_own, le_xp, le_fn, le_opt, le_val, le_elem, le_nil_own, le_nil_vs, leH_ghost, leL_chunk, leXL_id, bnd_int, bnd_bool, bnd_val, bnd_nil, bnd_junk, bnd_vs, bnd_xp, bnd_agg, bnd_tup, bnd_ptr, bnd_own, bnd_elem, bnd_fn, bnd_iface, bnd_opt, bndL_nil, bndL_cons, lenH_cons, lenH_nil, imp_self, implies_true, true_and, and_true] <;> simp
      · obtain rfl : i = 2 := by omega
        refine ⟨3, by omega, by omega, ?_⟩
        have hw : IntKind.i64.wrap (((2 : Nat) : Int) + 1) = ((3 : Nat) : Int) := by rw [IntWalk.i64_in _ (by omega)]; rfl
        simp only [hw, corS, corAt, leS_mk, leL_cons, leL_nil, le_junk, le_int, le_bool, le_nil, leLL_nil, leLL_cons, leH_cons, leH_nil, leH1_box, leH1_own, leH1_gone, le_vs, le_agg, le_tup, le_ptr, le_own, le_xp, le_fn, le_opt, le_val, le_elem, le_nil_own, le_nil_vs, leH_ghost, leL_chunk, leXL_id, bnd_int, bnd_bool, bnd_val, bnd_nil, bnd_junk, bnd_vs, bnd_xp, bnd_agg, bnd_tup, bnd_ptr, bnd_own, bnd_elem, bnd_fn, bnd_iface, bnd_opt, bndL_nil, bndL_cons, lenH_cons, lenH_nil, imp_self, implies_true, true_and, and_true] <;> simp
      · obtain rfl : i = 0 := by omega
        refine ⟨1, by omega, by omega, ?_⟩
        have hw : IntKind.i64.wrap (((0 : Nat) : Int) + 1) = ((1 : Nat) : Int) := by rw [IntWalk.i64_in _ (by omega)]; rfl
        simp only [hw, corS, corAt, leS_mk, leL_cons, leL_nil, le_junk, le_int, le_bool, le_nil, leLL_nil, leLL_cons, leH_cons, leH_nil, leH1_box, leH1_own, leH1_gone, le_vs, le_agg, le_tup, le_ptr, le_own, le_xp, le_fn, le_opt, le_val, le_elem, le_nil_own, le_nil_vs, leH_ghost, leL_chunk, leXL_id, bnd_int, bnd_bool, bnd_val, bnd_nil, bnd_junk, bnd_vs, bnd_xp, bnd_agg, bnd_tup, bnd_ptr, bnd_own, bnd_elem, bnd_fn, bnd_iface, bnd_opt, bndL_nil, bndL_cons, lenH_cons, lenH_nil, imp_self, implies_true, true_and, and_true] <;> simp
      · obtain rfl : i = 4 := by omega
        rw [corS_4]
        exact ans_iv1 h'
  · exact h.1.elim

end Go.Proofs.Ytdognchniaojoaa
