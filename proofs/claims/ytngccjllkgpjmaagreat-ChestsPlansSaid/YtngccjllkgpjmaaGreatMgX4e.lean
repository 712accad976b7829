/- Intervals, walked: the program's checks, products, spans. -/
import Derived.Test.YtngccjllkgpjmaaGreatMgX4d
import Derived.Test.YtngccjllkgpjmaaGreatMgX4c
/- Intervals, walked: the program's checks, products, spans. -/
set_option linter.all false
namespace Go.Proofs.YtngccjllkgpjmaaGreat
open Go Go.Vx
set_option maxRecDepth 100000
set_option maxHeartbeats 4000000

def v57 : VF := { ntmps := 9, res := [.tmp 2], body :=
 (.seq (.region [u1 2 .mov [.cn (.bool false)]])
 (.seq (.region [u1 3 .mov [.tm 0],
 u1 4 (.cmp .geq) [.tm 3, .cn (.int .i64 (-4611686018427387904))],
 u1 5 .mov [.tm 4],
 u2 6 5 true .mov [.tm 0],
 u2 7 5 true (.cmp .leq) [.tm 6, .cn (.int .i64 4611686018427387904)],
 u1 8 .and [.tm 5, .tm 7],
 u1 2 .mov [.tm 8]])
 .ret)) }
theorem v57_is : vfunc Tryz.prog Tryz.f57 = some v57 := by kernel_rfl
def v56 : VF := { ntmps := 36, res := [.tmp 2], body :=
 (.seq (.region [u1 2 .mov [.cn (.int .i64 0)]])
 (.seq (.seq (.region [u1 7 .mov [.tm 0],
 u1 8 .len [.tm 7],
 u1 9 .mov [.cn (.int .i64 0)]])
 (.block 0 (.loop (.seq (.region [u1 10 (.cmp .lss) [.tm 9, .tm 8]])
 (.seq (.cond (.tm 10) .skip
  (.exit 0))
 (.seq (.block 1 (.seq (.region [u1 11 (.idxAddr 2) [.tm 7, .tm 9],
 u1 12 (.load true 2) [.tm 11],
 u1 4 (.alloc [(.int .i64 0), (.int .i64 0)]) [],
 u0 (.store 2) [.tm 4, .tm 12]])
 (.seq (.region [u1 13 (.fieldAddr 0) [.tm 4],
 u1 14 (.load false 1) [.tm 13],
 u1 15 (.call 57) [.tm 14],
 u1 16 .not [.tm 15],
 u1 17 .mov [.tm 16],
 u2 18 17 false (.fieldAddr 1) [.tm 4],
 u2 19 17 false (.load false 1) [.tm 18],
 u2 20 17 false (.call 57) [.tm 19],
 u2 21 17 false .not [.tm 20],
 u1 22 .or [.tm 17, .tm 21]])
 (.cond (.tm 22) (.seq (.region [u1 2 .mov [.cn (.int .i64 7)]])
 .ret)
  .skip))))
 (.region [u1 23 (.ari .add) [.tm 9, .cn (.int .i64 1)],
 u1 9 .mov [.tm 23]])))))))
 (.seq (.seq (.region [u1 24 .mov [.tm 0],
 u1 25 .len [.tm 24],
 u1 26 .mov [.cn (.int .i64 0)]])
 (.block 2 (.loop (.seq (.region [u1 27 (.cmp .lss) [.tm 26, .tm 25]])
 (.seq (.cond (.tm 27) .skip
  (.exit 2))
 (.seq (.block 3 (.seq (.region [u1 28 (.idxAddr 2) [.tm 24, .tm 26],
 u1 29 (.load true 2) [.tm 28],
 u1 6 (.alloc [(.int .i64 0), (.int .i64 0)]) [],
 u0 (.store 2) [.tm 6, .tm 29]])
 (.seq (.region [u1 30 (.fieldAddr 0) [.tm 6],
 u1 31 (.load false 1) [.tm 30],
 u1 32 (.fieldAddr 1) [.tm 6],
 u1 33 (.load false 1) [.tm 32],
 u1 34 (.cmp .gtr) [.tm 31, .tm 33]])
 (.cond (.tm 34) (.seq (.region [u1 2 .mov [.cn (.int .i64 2)]])
 .ret)
  .skip))))
 (.region [u1 35 (.ari .add) [.tm 26, .cn (.int .i64 1)],
 u1 26 .mov [.tm 35]])))))))
 (.seq (.region [u1 2 .mov [.cn (.int .i64 0)]])
 .ret)))) }
theorem v56_is : vfunc Tryz.prog Tryz.f56 = some v56 := by kernel_rfl
def v85 : VF := { ntmps := 8, res := [.tmp 2], body :=
 (.seq (.region [u1 2 .mov [.cn (.int .u64 0)]])
 (.seq (.region [u1 3 .mov [.tm 0],
 u1 4 .mov [.tm 0],
 u1 5 .neg [.tm 4],
 u1 6 .max [.tm 3, .tm 5],
 u1 7 (.conv .u64) [.tm 6],
 u1 2 .mov [.tm 7]])
 .ret)) }
theorem v85_is : vfunc Tryz.prog Tryz.f85 = some v85 := by kernel_rfl
def v59 : VF := { ntmps := 29, res := [.cell 4 true 3], body :=
 (.seq (.region [u1 4 (.alloc [(.bool false), (.int .u64 0), (.int .u64 0)]) []])
 (.seq (.region [u1 8 .mov [.tm 0],
 u1 9 (.call 85) [.tm 8],
 u1 10 .mov [.tm 1],
 u1 11 (.call 85) [.tm 10],
 u1 12 (.call 84) [.tm 9, .tm 11],
 u1 7 .mov [.tm 12],
 u1 13 (.ext 0) [.tm 7],
 u1 14 (.ext 1) [.tm 7],
 u1 5 .mov [.tm 13],
 u1 6 .mov [.tm 14]])
 (.seq (.region [u1 15 .mov [.tm 0],
 u1 16 (.cmp .lss) [.tm 15, .cn (.int .i64 0)],
 u1 17 .mov [.tm 1],
 u1 18 (.cmp .lss) [.tm 17, .cn (.int .i64 0)],
 u1 19 (.eqb true) [.tm 16, .tm 18],
 u1 20 .mov [.tm 19],
 u2 21 20 true .mov [.tm 5],
 u2 22 20 true .mov [.tm 6],
 u2 23 20 true (.bit .or) [.tm 21, .tm 22],
 u2 24 20 true (.cmp .neq) [.tm 23, .cn (.int .u64 0)],
 u1 25 .and [.tm 20, .tm 24],
 u1 26 .mov [.tm 5],
 u1 27 .mov [.tm 6],
 u1 28 (.build [(.bool false), (.int .u64 0), (.int .u64 0)] [(0, 1), (1, 1), (2, 1)]) [.tm 25, .tm 26, .tm 27],
 u0 (.store 3) [.tm 4, .tm 28]])
 .ret))) }
theorem v59_is : vfunc Tryz.prog Tryz.f59 = some v59 := by kernel_rfl
def v82 : VF := { ntmps := 39, res := [.tmp 4], body :=
 (.seq (.region [u1 2 .box [.tm 0],
 u1 3 .box [.tm 1],
 u1 4 .mov [.cn (.bool false)]])
 (.seq (.seq (.region [u1 6 (.load true 3) [.tm 2],
 u1 7 (.load true 3) [.tm 3],
 u1 8 (.eqv false [false, true, true]) [.tm 6, .tm 7]])
 (.cond (.tm 8) (.seq (.region [u1 4 .mov [.cn (.bool false)]])
 .ret)
  .skip))
 (.seq (.seq (.region [u1 9 (.fieldAddr 0) [.tm 2],
 u1 10 (.load false 1) [.tm 9],
 u1 11 (.fieldAddr 0) [.tm 3],
 u1 12 (.load false 1) [.tm 11],
 u1 13 (.eqb true) [.tm 10, .tm 12]])
 (.cond (.tm 13) (.seq (.region [u1 14 (.fieldAddr 0) [.tm 2],
 u1 15 (.load false 1) [.tm 14],
 u1 4 .mov [.tm 15]])
 .ret)
  .skip))
 (.seq (.region [u1 16 (.fieldAddr 1) [.tm 2],
 u1 17 (.load false 1) [.tm 16],
 u1 18 (.fieldAddr 1) [.tm 3],
 u1 19 (.load false 1) [.tm 18],
 u1 20 (.cmp .lss) [.tm 17, .tm 19],
 u1 21 .mov [.tm 20],
 u2 22 21 false (.fieldAddr 1) [.tm 2],
 u2 23 21 false (.load false 1) [.tm 22],
 u2 24 21 false (.fieldAddr 1) [.tm 3],
 u2 25 21 false (.load false 1) [.tm 24],
 u2 26 21 false (.cmp .eql) [.tm 23, .tm 25],
 u2 27 21 false .mov [.tm 26],
 u2 28 27 true (.fieldAddr 2) [.tm 2],
 u2 29 27 true (.load false 1) [.tm 28],
 u2 30 27 true (.fieldAddr 2) [.tm 3],
 u2 31 27 true (.load false 1) [.tm 30],
 u2 32 27 true (.cmp .lss) [.tm 29, .tm 31],
 u2 33 21 false .and [.tm 27, .tm 32],
 u1 34 .or [.tm 21, .tm 33],
 u1 5 .mov [.tm 34]])
 (.seq (.region [u1 35 .mov [.tm 5],
 u1 36 (.fieldAddr 0) [.tm 2],
 u1 37 (.load false 1) [.tm 36],
 u1 38 (.eqb true) [.tm 35, .tm 37],
 u1 4 .mov [.tm 38]])
 .ret))))) }
theorem v82_is : vfunc Tryz.prog Tryz.f82 = some v82 := by kernel_rfl
def v83 : VF := { ntmps := 56, res := [.tmp 6, .tmp 7], body :=
 (.seq (.region [u1 3 .box [.tm 0],
 u1 6 .mov [.cn (.int .i64 0)],
 u1 7 .mov [.cn (.bool false)]])
 (.seq (.seq (.region [u1 10 (.fieldAddr 1) [.tm 3],
 u1 11 (.load false 1) [.tm 10],
 u1 12 .mov [.tm 1],
 u1 13 (.cmp .geq) [.tm 11, .tm 12]])
 (.cond (.tm 13) (.seq (.region [u1 6 .mov [.cn (.int .i64 0)],
 u1 7 .mov [.cn (.bool false)]])
 .ret)
  .skip))
 (.seq (.region [u1 15 (.fieldAddr 1) [.tm 3],
 u1 16 (.load false 1) [.tm 15],
 u1 17 (.fieldAddr 2) [.tm 3],
 u1 18 (.load false 1) [.tm 17],
 u1 19 .mov [.tm 1],
 u1 20 (.call 103) [.tm 16, .tm 18, .tm 19],
 u1 14 .mov [.tm 20],
 u1 21 (.ext 0) [.tm 14],
 u1 22 (.ext 1) [.tm 14],
 u1 8 .mov [.tm 21],
 u1 9 .mov [.tm 22]])
 (.seq (.seq (.region [u1 23 .mov [.tm 9],
 u1 24 (.cmp .neq) [.tm 23, .cn (.int .u64 0)],
 u1 25 .mov [.tm 24],
 u2 26 25 true .mov [.tm 2],
 u2 27 25 true (.fieldAddr 0) [.tm 3],
 u2 28 25 true (.load false 1) [.tm 27],
 u2 29 25 true (.eqb true) [.tm 26, .tm 28],
 u1 30 .and [.tm 25, .tm 29]])
 (.cond (.tm 30) (.region [u1 31 .mov [.tm 8],
 u1 32 (.ari .add) [.tm 31, .cn (.int .u64 1)],
 u1 8 .mov [.tm 32]])
  .skip))
 (.seq (.seq (.region [u1 33 .mov [.tm 8],
 u1 34 (.cmp .gtr) [.tm 33, .cn (.int .u64 4611686018427387904)],
 u1 35 .mov [.tm 34],
 u2 36 35 false .mov [.tm 8],
 u2 37 35 false (.cmp .eql) [.tm 36, .cn (.int .u64 0)],
 u2 38 35 false .mov [.tm 37],
 u2 39 38 true .mov [.tm 9],
 u2 40 38 true (.cmp .neq) [.tm 39, .cn (.int .u64 0)],
 u2 41 35 false .and [.tm 38, .tm 40],
 u2 42 35 false .mov [.tm 41],
 u2 43 42 true .mov [.tm 2],
 u2 44 42 true (.fieldAddr 0) [.tm 3],
 u2 45 42 true (.load false 1) [.tm 44],
 u2 46 42 true (.eqb true) [.tm 43, .tm 45],
 u2 47 35 false .and [.tm 42, .tm 46],
 u1 48 .or [.tm 35, .tm 47]])
 (.cond (.tm 48) (.seq (.region [u1 6 .mov [.cn (.int .i64 0)],
 u1 7 .mov [.cn (.bool false)]])
 .ret)
  .skip))
 (.seq (.seq (.region [u1 49 (.fieldAddr 0) [.tm 3],
 u1 50 (.load false 1) [.tm 49]])
 (.cond (.tm 50) (.seq (.region [u1 51 .mov [.tm 8],
 u1 52 (.conv .i64) [.tm 51],
 u1 53 .neg [.tm 52],
 u1 6 .mov [.tm 53],
 u1 7 .mov [.cn (.bool true)]])
 .ret)
  .skip))
 (.seq (.region [u1 54 .mov [.tm 8],
 u1 55 (.conv .i64) [.tm 54],
 u1 6 .mov [.tm 55],
 u1 7 .mov [.cn (.bool true)]])
 .ret))))))) }
theorem v83_is : vfunc Tryz.prog Tryz.f83 = some v83 := by kernel_rfl
def v58 : VF := { ntmps := 58, res := [.cell 4 true 2, .tmp 5], body :=
 (.seq (.region [u1 4 (.alloc [(.int .i64 0), (.int .i64 0)]) [],
 u1 5 .mov [.cn (.int .i64 0)]])
 (.seq (.draw [(6, .box [(.bool false), (.int .u64 0), (.int .u64 0)]), (7, .box [(.bool false), (.int .u64 0), (.int .u64 0)])] [w1 14 .mov [.tm 1],
 w1 15 (.idxAddr 3) [.tm 14, .cn (.int .i64 0)],
 w1 16 (.load true 3) [.tm 15],
 w1 17 .mov [.tm 1],
 w1 18 (.idxAddr 3) [.tm 17, .cn (.int .i64 0)],
 w1 19 (.load true 3) [.tm 18],
 ⟨u0 (.store 3) [.tm 6, .tm 16], [.tm 18]⟩,
 w0 (.store 3) [.tm 7, .tm 19]])
 (.seq (.seq (.region [u1 20 .mov [.tm 1],
 u1 21 (.slice 3 true false) [.tm 20, .cn (.int .i64 1)],
 u1 22 .len [.tm 21],
 u1 23 .mov [.cn (.int .i64 0)]])
 (.block 0 (.loop (.seq (.region [u1 24 (.cmp .lss) [.tm 23, .tm 22]])
 (.seq (.cond (.tm 24) .skip
  (.exit 0))
 (.seq (.block 1 (.seq (.region [u1 25 (.idxAddr 3) [.tm 21, .tm 23],
 u1 26 (.load true 3) [.tm 25],
 u1 9 (.alloc [(.bool false), (.int .u64 0), (.int .u64 0)]) [],
 u0 (.store 3) [.tm 9, .tm 26]])
 (.seq (.seq (.region [u1 27 (.load true 3) [.tm 9],
 u1 28 (.load true 3) [.tm 6],
 u1 29 (.call 82) [.tm 27, .tm 28]])
 (.cond (.tm 29) (.region [u1 30 (.load true 3) [.tm 9],
 u0 (.store 3) [.tm 6, .tm 30]])
  .skip))
 (.seq (.region [u1 31 (.load true 3) [.tm 7],
 u1 32 (.load true 3) [.tm 9],
 u1 33 (.call 82) [.tm 31, .tm 32]])
 (.cond (.tm 33) (.region [u1 34 (.load true 3) [.tm 9],
 u0 (.store 3) [.tm 7, .tm 34]])
  .skip)))))
 (.region [u1 35 (.ari .add) [.tm 23, .cn (.int .i64 1)],
 u1 23 .mov [.tm 35]])))))))
 (.seq (.region [u1 37 (.load true 3) [.tm 6],
 u1 38 .mov [.tm 0],
 u1 39 (.call 83) [.tm 37, .tm 38, .cn (.bool false)],
 u1 36 .mov [.tm 39],
 u1 40 (.ext 0) [.tm 36],
 u1 41 (.ext 1) [.tm 36],
 u1 10 .mov [.tm 40],
 u1 11 .mov [.tm 41]])
 (.seq (.region [u1 43 (.load true 3) [.tm 7],
 u1 44 .mov [.tm 0],
 u1 45 (.call 83) [.tm 43, .tm 44, .cn (.bool true)],
 u1 42 .mov [.tm 45],
 u1 46 (.ext 0) [.tm 42],
 u1 47 (.ext 1) [.tm 42],
 u1 12 .mov [.tm 46],
 u1 13 .mov [.tm 47]])
 (.seq (.seq (.region [u1 48 .mov [.tm 11],
 u1 49 .not [.tm 48],
 u1 50 .mov [.tm 49],
 u2 51 50 false .mov [.tm 13],
 u2 52 50 false .not [.tm 51],
 u1 53 .or [.tm 50, .tm 52]])
 (.cond (.tm 53) (.seq (.region [u1 54 (.build [(.int .i64 0), (.int .i64 0)] []) [],
 u0 (.store 2) [.tm 4, .tm 54],
 u1 5 .mov [.cn (.int .i64 7)]])
 .ret)
  .skip))
 (.seq (.region [u1 55 .mov [.tm 10],
 u1 56 .mov [.tm 12],
 u1 57 (.build [(.int .i64 0), (.int .i64 0)] [(0, 1), (1, 1)]) [.tm 55, .tm 56],
 u0 (.store 2) [.tm 4, .tm 57],
 u1 5 .mov [.cn (.int .i64 0)]])
 .ret))))))) }
theorem v58_is : vfunc Tryz.prog Tryz.f58 = some v58 := by kernel_rfl


def numC : Ctr := { alias := false, of := fun l => match l with | [.int .i64 n] => .fin (.bool (numOk n)) [] | _ => noC }
def ivlC : Ctr := { alias := false, of := fun a => match a with
  | [.vs _ _ n sz get] => .ex (List Iv) fun l => .pre (lsP 2 enc2 n sz get l ∧ l.length ≤ 1000000) (.fin (.int .i64 (ivE l)) [])
  | _ => noC }
def sizC : Ctr := { alias := false, of := fun l => match l with
  | [.int .i64 n] => .pre (-9223372036854775808 ≤ n ∧ n ≤ 9223372036854775807) (.fin (.int .u64 (n.natAbs : Int)) [])
  | _ => noC }
def timC : Ctr := { alias := false, of := fun l => match l with
  | [.int .i64 a, .int .i64 b] => .pre ((-9223372036854775808 ≤ a ∧ a ≤ 9223372036854775807) ∧ -9223372036854775808 ≤ b ∧ b ≤ 9223372036854775807) (.fin (.agg (longE (a * b))) [])
  | _ => noC }
def lessC : Ctr := { alias := false, of := fun l => match l with
  | [.agg [.bool n, .int .u64 h, .int .u64 lo], .agg [.bool n', .int .u64 h', .int .u64 lo']] => .ex Int fun x => .ex Int fun y => .pre (longP x n h lo ∧ longP y n' h' lo') (.fin (.bool (decide (x < y))) [])
  | _ => noC }
def overC : Ctr := { alias := false, of := fun l => match l with
  | [.agg [.bool n, .int .u64 h, .int .u64 lo], .int .u64 d, .bool up] => .ex Int fun x => .pre (longP x n h lo ∧ big x ∧ 0 < d ∧ d ≤ 18446744073709551615) (.fin (.tup [.int .i64 (rndF up x d).1, .bool (rndF up x d).2]) [])
  | _ => noC }
def spanC : Ctr := { alias := false, of := fun l => match l with
  | [.int .u64 d, .vs _ _ n sz get] => .ex Int fun x => .ex (List Int) fun r => .pre (lsP 3 longE n sz get (x :: r) ∧ r.length ≤ 1000 ∧ (∀ y ∈ x :: r, big y) ∧ 0 < d ∧ d ≤ 18446744073709551615) (.fin (.tup [.agg (enc2 (spanI d x r).1), .int .i64 (spanI d x r).2]) [])
  | _ => noC }
def P0 : Env := { ct := fun _ => none, fn := fun _ => none, meth := fun _ _ => none }
theorem P0_ok : EnvOk Tryz.prog P0 := by
  refine ⟨fun f c h => ?_, fun f vf h => ?_, (fun _ _ _ h => by cases h), by kernel_rfl⟩
  · cases h
  · cases h

theorem num_ok : numC.ok Tryz.prog 57 := by
  refine contract Tryz.func57 v57_is P0_ok 100 numC fun args k h => ⟨args, ?_⟩
  simp only [numC] at h
  split at h
  · refine ⟨by simp [leL, le], ?_⟩
    dsimp only [v57, r_end, r_end1, r_nil, r_op, r_opg, r_runOp, r_op0, r_yld0, r_yld1, r_y, r_rbeg, r_rend, r_rend1, r_rfrm, r_rfrm1, r_range, r_rangeK, r_rangeE, r_draw, r_drawT, r_tleaf, r_tops, r_tbr, s_chkF, s_chkT, r_dnil, r_dop, r_dopg, r_dplq, r_dplh, r_dq, r_dq0, r_dcl1, r_dcl0, r_dct1, r_dct0, r_dgd, r_dgq1, r_dgq0, r_dctG, r_op1, r_eff, r_eff0, r_call, r_call0, r_inl, r_g, r_gq, r_gc, r_effg, r_effg0, r_callg, r_callg0, r_fin, r_pre, r_imp, r_all, r_ex, r_fing, r_preg, r_exg, r_inBlock, r_inLoop, r_frame, r_frame1, r_skip, r_stuck, r_region, r_seq, r_cond, r_cond1, r_block, r_exit, r_exit1, r_exit2, r_ret, r_loop, s_args0, s_args1, s_xt, s_xc, u0, u1, u2, w0, w1, noOwn, noOwnL, padL, blankL, callee, calleeM, callArgs, eff, ctOf, ctM, ctI, getL, setL, S.put, S.upd, unopts, unopt, unoptsO, unoptsB, lazyO, guardOf, gbool, eMov, eNot, eNeg, eConv, eExt, eLenArr, eLen, eLenStr, eEqb, eEqv, allEq, eNil, negIf, eBool2, eCmp, eAri, ari, eBit, eDiv, eSh, eMinMax, foldMin, foldMax, kEq, pure1, cmpB, VO.quiet, resVals, resVal, tupled, popRet, popTo, cond, Option.bind, Option.map, eNew, eBox, asCells, lenH, snocH, eFieldAddr, eField, eLoad, cellsAt, getH, setH, dropL, takeL, mkAgg, lenL, lenS, shift, shiftL, shiftH, viewN, viewL, view, andT, junks, List.append_nil, Nat.beq, eIdxAddr, eIdxArr, idxN_0, idxN_1, idxN_2, idxN_3, eIndex, eStore, storeAt, spliceL, ones, one, eSlice, eSliceArr, bounds, subLo_z, addLo_z, subLo_one, addLo_one, eMake, eAppend, readS, repL, buildCells, chunk, purgeL, purgeLL, purgeH, purge, refs, refsL, List.cons_append, List.nil_append, wrOps, wrAl, wrDops, wrC, junkAt, putAll, putHs, headOf, headK, keepG, List.append_eq, headX, VO.isAppend, chkG, chkA, napP, napB, there, wrDtr, chkP, apartP, apartB, blk, strip, runAl, AL.ho, yld, putPs, lenN, findR, notRound, jumpK, jumpPT, jcode, List.map_cons, List.map_nil, ite_self, reduceIte]
    simp only [true_and, and_true, imp_self, implies_true, decide_eq_true_eq, decide_eq_false_iff_not, Nat.reduceAdd, Nat.reduceLeDiff, Bool.not_not, reduceCtorEq, false_imp_iff, Bool.not_eq_true', Bool.not_eq_false', Bool.false_eq_true, and_self, forall_const, ne_eq, not_false_eq_true, Nat.reduceEqDiff]
    exact ans_bool h
  · exact h.1.elim
theorem siz_ok : sizC.ok Tryz.prog 85 := by
  refine contract Tryz.func85 v85_is P0_ok 100 sizC fun args k h => ⟨args, ?_⟩
  simp only [sizC] at h
  split at h
  · rename_i n
    obtain ⟨⟨h0, h1⟩, h⟩ := h
    refine ⟨by simp [leL, le], ?_⟩
    dsimp only [v85, r_end, r_end1, r_nil, r_op, r_opg, r_runOp, r_op0, r_yld0, r_yld1, r_y, r_rbeg, r_rend, r_rend1, r_rfrm, r_rfrm1, r_range, r_rangeK, r_rangeE, r_draw, r_drawT, r_tleaf, r_tops, r_tbr, s_chkF, s_chkT, r_dnil, r_dop, r_dopg, r_dplq, r_dplh, r_dq, r_dq0, r_dcl1, r_dcl0, r_dct1, r_dct0, r_dgd, r_dgq1, r_dgq0, r_dctG, r_op1, r_eff, r_eff0, r_call, r_call0, r_inl, r_g, r_gq, r_gc, r_effg, r_effg0, r_callg, r_callg0, r_fin, r_pre, r_imp, r_all, r_ex, r_fing, r_preg, r_exg, r_inBlock, r_inLoop, r_frame, r_frame1, r_skip, r_stuck, r_region, r_seq, r_cond, r_cond1, r_block, r_exit, r_exit1, r_exit2, r_ret, r_loop, s_args0, s_args1, s_xt, s_xc, u0, u1, u2, w0, w1, noOwn, noOwnL, padL, blankL, callee, calleeM, callArgs, eff, ctOf, ctM, ctI, getL, setL, S.put, S.upd, unopts, unopt, unoptsO, unoptsB, lazyO, guardOf, gbool, eMov, eNot, eNeg, eConv, eExt, eLenArr, eLen, eLenStr, eEqb, eEqv, allEq, eNil, negIf, eBool2, eCmp, eAri, ari, eBit, eDiv, eSh, eMinMax, foldMin, foldMax, kEq, pure1, cmpB, VO.quiet, resVals, resVal, tupled, popRet, popTo, cond, Option.bind, Option.map, eNew, eBox, asCells, lenH, snocH, eFieldAddr, eField, eLoad, cellsAt, getH, setH, dropL, takeL, mkAgg, lenL, lenS, shift, shiftL, shiftH, viewN, viewL, view, andT, junks, List.append_nil, Nat.beq, eIdxAddr, eIdxArr, idxN_0, idxN_1, idxN_2, idxN_3, eIndex, eStore, storeAt, spliceL, ones, one, eSlice, eSliceArr, bounds, subLo_z, addLo_z, subLo_one, addLo_one, eMake, eAppend, readS, repL, buildCells, chunk, purgeL, purgeLL, purgeH, purge, refs, refsL, List.cons_append, List.nil_append, wrOps, wrAl, wrDops, wrC, junkAt, putAll, putHs, headOf, headK, keepG, List.append_eq, headX, VO.isAppend, chkG, chkA, napP, napB, there, wrDtr, chkP, apartP, apartB, blk, strip, runAl, AL.ho, yld, putPs, lenN, findR, notRound, jumpK, jumpPT, jcode, List.map_cons, List.map_nil, ite_self, reduceIte]
    simp only [true_and, and_true, imp_self, implies_true, decide_eq_true_eq, decide_eq_false_iff_not, Nat.reduceAdd, Nat.reduceLeDiff, Bool.not_not, reduceCtorEq, false_imp_iff, Bool.not_eq_true', Bool.not_eq_false', Bool.false_eq_true, and_self, forall_const, ne_eq, not_false_eq_true, Nat.reduceEqDiff]
    have e : IntKind.u64.wrap (max n (IntKind.i64.wrap (0 - n))) = (n.natAbs : Int) := by
      rcases Int.lt_or_le n (-9223372036854775807) with h' | h'
      · obtain rfl : n = -9223372036854775808 := by omega
        decide
      · rw [IntWalk.i64_in _ (by omega), IntWalk.u64_in _ (by omega)]; omega
    rw [e]
    exact ans_int h
  · exact h.1.elim

def P1 : Env := { ct := fun n => match n with | 57 => some numC | 85 => some sizC | 84 => some mul64C | 103 => some div64C | _ => none, fn := fun _ => none, meth := fun _ _ => none }
theorem P1_ct57 : P1.ct 57 = some numC := rfl
theorem P1_ct85 : P1.ct 85 = some sizC := rfl
theorem P1_ct84 : P1.ct 84 = some mul64C := rfl
theorem P1_ct103 : P1.ct 103 = some div64C := rfl
theorem P1_ok : EnvOk Tryz.prog P1 := by
  refine ⟨fun f c h => ?_, fun f vf h => ?_, (fun _ _ _ h => by cases h), by kernel_rfl⟩
  · simp only [P1] at h
    split at h
    · cases h; exact ⟨num_ok, Tryz.f57, Tryz.func57, by kernel_rfl, by kernel_rfl⟩
    · cases h; exact ⟨siz_ok, Tryz.f85, Tryz.func85, by kernel_rfl, by kernel_rfl⟩
    · cases h; exact ⟨mul64_ok, Tryz.f84, Tryz.func84, by kernel_rfl, by kernel_rfl⟩
    · cases h; exact ⟨div64_ok, Tryz.f103, Tryz.func103, by kernel_rfl, by kernel_rfl⟩
    · cases h
  · cases h


theorem ivl_ok : ivlC.ok Tryz.prog 56 := by
  refine contract Tryz.func56 v56_is P1_ok 400 ivlC fun args k h => ?_
  simp only [ivlC] at h
  split at h
  · rename_i tt z n sz get
    obtain ⟨l, ⟨⟨rfl, rfl, hg⟩, hmax⟩, h⟩ := h
    refine ⟨[.vs tt z l.length 2 (fun k => enc2 (l.getD k default))], by simpa [leL, le] using hg, ?_⟩
    dsimp only [v56, enc2, r_end, r_end1, r_nil, r_op, r_opg, r_runOp, r_op0, r_yld0, r_yld1, r_y, r_rbeg, r_rend, r_rend1, r_rfrm, r_rfrm1, r_range, r_rangeK, r_rangeE, r_draw, r_drawT, r_tleaf, r_tops, r_tbr, s_chkF, s_chkT, r_dnil, r_dop, r_dopg, r_dplq, r_dplh, r_dq, r_dq0, r_dcl1, r_dcl0, r_dct1, r_dct0, r_dgd, r_dgq1, r_dgq0, r_dctG, r_op1, r_eff, r_eff0, r_call, r_call0, r_inl, r_g, r_gq, r_gc, r_effg, r_effg0, r_callg, r_callg0, r_fin, r_pre, r_imp, r_all, r_ex, r_fing, r_preg, r_exg, r_inBlock, r_inLoop, r_frame, r_frame1, r_skip, r_stuck, r_region, r_seq, r_cond, r_cond1, r_block, r_exit, r_exit1, r_exit2, r_ret, r_loop, s_args0, s_args1, s_xt, s_xc, u0, u1, u2, w0, w1, noOwn, noOwnL, padL, blankL, callee, calleeM, callArgs, eff, ctOf, ctM, ctI, getL, setL, S.put, S.upd, unopts, unopt, unoptsO, unoptsB, lazyO, guardOf, gbool, eMov, eNot, eNeg, eConv, eExt, eLenArr, eLen, eLenStr, eEqb, eEqv, allEq, eNil, negIf, eBool2, eCmp, eAri, ari, eBit, eDiv, eSh, eMinMax, foldMin, foldMax, kEq, pure1, cmpB, VO.quiet, resVals, resVal, tupled, popRet, popTo, cond, Option.bind, Option.map, eNew, eBox, asCells, lenH, snocH, eFieldAddr, eField, eLoad, cellsAt, getH, setH, dropL, takeL, mkAgg, lenL, lenS, shift, shiftL, shiftH, viewN, viewL, view, andT, junks, List.append_nil, Nat.beq, eIdxAddr, eIdxArr, idxN_0, idxN_1, idxN_2, idxN_3, eIndex, eStore, storeAt, spliceL, ones, one, eSlice, eSliceArr, bounds, subLo_z, addLo_z, subLo_one, addLo_one, eMake, eAppend, readS, repL, buildCells, chunk, purgeL, purgeLL, purgeH, purge, refs, refsL, List.cons_append, List.nil_append, wrOps, wrAl, wrDops, wrC, junkAt, putAll, putHs, headOf, headK, keepG, List.append_eq, headX, VO.isAppend, chkG, chkA, napP, napB, there, wrDtr, chkP, apartP, apartB, blk, strip, runAl, AL.ho, yld, putPs, lenN, findR, notRound, jumpK, jumpPT, jcode, List.map_cons, List.map_nil, ite_self, reduceIte]
    simp only [true_and, and_true, imp_self, implies_true, decide_eq_true_eq, decide_eq_false_iff_not, Nat.reduceAdd, Nat.reduceLeDiff, Bool.not_not, reduceCtorEq, false_imp_iff, Bool.not_eq_true', Bool.not_eq_false', Bool.false_eq_true, and_self, forall_const, ne_eq, not_false_eq_true, Nat.reduceEqDiff]
    refine Loop.keep [0, 6, 0, 0] Nat (fun i => [(9, .int .i64 i)]) (fun _ => []) [] (fun i => i ≤ l.length ∧ ∀ j, j < i → (numOk (l.getD j default).1 && numOk (l.getD j default).2) = true) (fun i => l.length - i) ?_ ?_
    · refine ⟨0, ⟨Nat.zero_le _, fun j h => by omega⟩, ?_⟩
      dsimp only [r_end, r_end1, r_nil, r_op, r_opg, r_runOp, r_op0, r_yld0, r_yld1, r_y, r_rbeg, r_rend, r_rend1, r_rfrm, r_rfrm1, r_range, r_rangeK, r_rangeE, r_draw, r_drawT, r_tleaf, r_tops, r_tbr, s_chkF, s_chkT, r_dnil, r_dop, r_dopg, r_dplq, r_dplh, r_dq, r_dq0, r_dcl1, r_dcl0, r_dct1, r_dct0, r_dgd, r_dgq1, r_dgq0, r_dctG, r_op1, r_eff, r_eff0, r_call, r_call0, r_inl, r_g, r_gq, r_gc, r_effg, r_effg0, r_callg, r_callg0, r_fin, r_pre, r_imp, r_all, r_ex, r_fing, r_preg, r_exg, r_inBlock, r_inLoop, r_frame, r_frame1, r_skip, r_stuck, r_region, r_seq, r_cond, r_cond1, r_block, r_exit, r_exit1, r_exit2, r_ret, r_loop, s_args0, s_args1, s_xt, s_xc, u0, u1, u2, w0, w1, noOwn, noOwnL, padL, blankL, callee, calleeM, callArgs, eff, ctOf, ctM, ctI, getL, setL, S.put, S.upd, unopts, unopt, unoptsO, unoptsB, lazyO, guardOf, gbool, eMov, eNot, eNeg, eConv, eExt, eLenArr, eLen, eLenStr, eEqb, eEqv, allEq, eNil, negIf, eBool2, eCmp, eAri, ari, eBit, eDiv, eSh, eMinMax, foldMin, foldMax, kEq, pure1, cmpB, VO.quiet, resVals, resVal, tupled, popRet, popTo, cond, Option.bind, Option.map, eNew, eBox, asCells, lenH, snocH, eFieldAddr, eField, eLoad, cellsAt, getH, setH, dropL, takeL, mkAgg, lenL, lenS, shift, shiftL, shiftH, viewN, viewL, view, andT, junks, List.append_nil, Nat.beq, eIdxAddr, eIdxArr, idxN_0, idxN_1, idxN_2, idxN_3, eIndex, eStore, storeAt, spliceL, ones, one, eSlice, eSliceArr, bounds, subLo_z, addLo_z, subLo_one, addLo_one, eMake, eAppend, readS, repL, buildCells, chunk, purgeL, purgeLL, purgeH, purge, refs, refsL, List.cons_append, List.nil_append, wrOps, wrAl, wrDops, wrC, junkAt, putAll, putHs, headOf, headK, keepG, List.append_eq, headX, VO.isAppend, chkG, chkA, napP, napB, there, wrDtr, chkP, apartP, apartB, blk, strip, runAl, AL.ho, yld, putPs, lenN, findR, notRound, jumpK, jumpPT, jcode, List.map_cons, List.map_nil, ite_self, reduceIte]
      simp only [leS_mk, leL_cons, leL_nil, le_junk, le_int, le_bool, le_nil, leLL_nil, leLL_cons, leH_cons, leH_nil, leH1_box, leH1_own, leH1_gone, le_vs, le_agg, le_tup, le_ptr, le_own, le_xp, le_fn, le_opt, le_val, le_elem, le_nil_own, le_nil_vs, leH_ghost, leL_chunk, leXL_id, bnd_int, bnd_bool, bnd_val, bnd_nil, bnd_junk, bnd_vs, bnd_xp, bnd_agg, bnd_tup, bnd_ptr, bnd_own, bnd_elem, bnd_fn, bnd_iface, bnd_opt, bndL_nil, bndL_cons, lenH_cons, lenH_nil, imp_self, implies_true, true_and, and_true]
      simp
    · rintro i ⟨hi, ha⟩
      dsimp only [P1_ct57, numC, enc2, Int.toNat_natCast, r_end, r_end1, r_nil, r_op, r_opg, r_runOp, r_op0, r_yld0, r_yld1, r_y, r_rbeg, r_rend, r_rend1, r_rfrm, r_rfrm1, r_range, r_rangeK, r_rangeE, r_draw, r_drawT, r_tleaf, r_tops, r_tbr, s_chkF, s_chkT, r_dnil, r_dop, r_dopg, r_dplq, r_dplh, r_dq, r_dq0, r_dcl1, r_dcl0, r_dct1, r_dct0, r_dgd, r_dgq1, r_dgq0, r_dctG, r_op1, r_eff, r_eff0, r_call, r_call0, r_inl, r_g, r_gq, r_gc, r_effg, r_effg0, r_callg, r_callg0, r_fin, r_pre, r_imp, r_all, r_ex, r_fing, r_preg, r_exg, r_inBlock, r_inLoop, r_frame, r_frame1, r_skip, r_stuck, r_region, r_seq, r_cond, r_cond1, r_block, r_exit, r_exit1, r_exit2, r_ret, r_loop, s_args0, s_args1, s_xt, s_xc, u0, u1, u2, w0, w1, noOwn, noOwnL, padL, blankL, callee, calleeM, callArgs, eff, ctOf, ctM, ctI, getL, setL, S.put, S.upd, unopts, unopt, unoptsO, unoptsB, lazyO, guardOf, gbool, eMov, eNot, eNeg, eConv, eExt, eLenArr, eLen, eLenStr, eEqb, eEqv, allEq, eNil, negIf, eBool2, eCmp, eAri, ari, eBit, eDiv, eSh, eMinMax, foldMin, foldMax, kEq, pure1, cmpB, VO.quiet, resVals, resVal, tupled, popRet, popTo, cond, Option.bind, Option.map, eNew, eBox, asCells, lenH, snocH, eFieldAddr, eField, eLoad, cellsAt, getH, setH, dropL, takeL, mkAgg, lenL, lenS, shift, shiftL, shiftH, viewN, viewL, view, andT, junks, List.append_nil, Nat.beq, eIdxAddr, eIdxArr, idxN_0, idxN_1, idxN_2, idxN_3, eIndex, eStore, storeAt, spliceL, ones, one, eSlice, eSliceArr, bounds, subLo_z, addLo_z, subLo_one, addLo_one, eMake, eAppend, readS, repL, buildCells, chunk, purgeL, purgeLL, purgeH, purge, refs, refsL, List.cons_append, List.nil_append, wrOps, wrAl, wrDops, wrC, junkAt, putAll, putHs, headOf, headK, keepG, List.append_eq, headX, VO.isAppend, chkG, chkA, napP, napB, there, wrDtr, chkP, apartP, apartB, blk, strip, runAl, AL.ho, yld, putPs, lenN, findR, notRound, jumpK, jumpPT, jcode, List.map_cons, List.map_nil, ite_self, reduceIte]
      simp only [true_and, and_true, imp_self, implies_true, decide_eq_true_eq, decide_eq_false_iff_not, Nat.reduceAdd, Nat.reduceLeDiff, Bool.not_not, reduceCtorEq, false_imp_iff, Bool.not_eq_true', Bool.not_eq_false', Bool.false_eq_true, and_self, forall_const, ne_eq, not_false_eq_true, Nat.reduceEqDiff]
      refine ⟨fun hlt => ⟨⟨by omega, hlt⟩, fun hb => ans_int ?_, fun hb => ?_⟩, fun hge => ?_⟩
      · have e := ivE_bad (l := l) (i := i) (by omega) (by rw [← Bool.not_and, Bool.not_eq_true'] at hb; exact hb)
        rw [e] at h; exact h
      · rw [← Bool.not_and] at hb
        refine ⟨i + 1, ⟨by omega, fun j hj => ?_⟩, by omega, ?_⟩
        · rcases Nat.lt_or_ge j i with h' | h'
          · exact ha j h'
          · obtain rfl : j = i := by omega
            simpa using hb
        · have hw := w_succ (i := i) (n := l.length) (by omega) (by omega)
          simp only [hw, leS_mk, leL_cons, leL_nil, le_junk, le_int, le_bool, le_nil, leLL_nil, leLL_cons, leH_cons, leH_nil, leH1_box, leH1_own, leH1_gone, le_vs, le_agg, le_tup, le_ptr, le_own, le_xp, le_fn, le_opt, le_val, le_elem, le_nil_own, le_nil_vs, leH_ghost, leL_chunk, leXL_id, bnd_int, bnd_bool, bnd_val, bnd_nil, bnd_junk, bnd_vs, bnd_xp, bnd_agg, bnd_tup, bnd_ptr, bnd_own, bnd_elem, bnd_fn, bnd_iface, bnd_opt, bndL_nil, bndL_cons, lenH_cons, lenH_nil, imp_self, implies_true, true_and, and_true] <;> simp
      · obtain rfl : i = l.length := by omega
        refine Loop.keep [0, 23, 0, 0] Nat (fun i => [(26, .int .i64 i)]) (fun _ => []) [] (fun i => i ≤ l.length ∧ ∀ j, j < i → (l.getD j default).1 ≤ (l.getD j default).2) (fun i => l.length - i) ?_ ?_
        · refine ⟨0, ⟨Nat.zero_le _, fun j h => by omega⟩, ?_⟩
          dsimp only [r_end, r_end1, r_nil, r_op, r_opg, r_runOp, r_op0, r_yld0, r_yld1, r_y, r_rbeg, r_rend, r_rend1, r_rfrm, r_rfrm1, r_range, r_rangeK, r_rangeE, r_draw, r_drawT, r_tleaf, r_tops, r_tbr, s_chkF, s_chkT, r_dnil, r_dop, r_dopg, r_dplq, r_dplh, r_dq, r_dq0, r_dcl1, r_dcl0, r_dct1, r_dct0, r_dgd, r_dgq1, r_dgq0, r_dctG, r_op1, r_eff, r_eff0, r_call, r_call0, r_inl, r_g, r_gq, r_gc, r_effg, r_effg0, r_callg, r_callg0, r_fin, r_pre, r_imp, r_all, r_ex, r_fing, r_preg, r_exg, r_inBlock, r_inLoop, r_frame, r_frame1, r_skip, r_stuck, r_region, r_seq, r_cond, r_cond1, r_block, r_exit, r_exit1, r_exit2, r_ret, r_loop, s_args0, s_args1, s_xt, s_xc, u0, u1, u2, w0, w1, noOwn, noOwnL, padL, blankL, callee, calleeM, callArgs, eff, ctOf, ctM, ctI, getL, setL, S.put, S.upd, unopts, unopt, unoptsO, unoptsB, lazyO, guardOf, gbool, eMov, eNot, eNeg, eConv, eExt, eLenArr, eLen, eLenStr, eEqb, eEqv, allEq, eNil, negIf, eBool2, eCmp, eAri, ari, eBit, eDiv, eSh, eMinMax, foldMin, foldMax, kEq, pure1, cmpB, VO.quiet, resVals, resVal, tupled, popRet, popTo, cond, Option.bind, Option.map, eNew, eBox, asCells, lenH, snocH, eFieldAddr, eField, eLoad, cellsAt, getH, setH, dropL, takeL, mkAgg, lenL, lenS, shift, shiftL, shiftH, viewN, viewL, view, andT, junks, List.append_nil, Nat.beq, eIdxAddr, eIdxArr, idxN_0, idxN_1, idxN_2, idxN_3, eIndex, eStore, storeAt, spliceL, ones, one, eSlice, eSliceArr, bounds, subLo_z, addLo_z, subLo_one, addLo_one, eMake, eAppend, readS, repL, buildCells, chunk, purgeL, purgeLL, purgeH, purge, refs, refsL, List.cons_append, List.nil_append, wrOps, wrAl, wrDops, wrC, junkAt, putAll, putHs, headOf, headK, keepG, List.append_eq, headX, VO.isAppend, chkG, chkA, napP, napB, there, wrDtr, chkP, apartP, apartB, blk, strip, runAl, AL.ho, yld, putPs, lenN, findR, notRound, jumpK, jumpPT, jcode, List.map_cons, List.map_nil, ite_self, reduceIte]
          simp only [leS_mk, leL_cons, leL_nil, le_junk, le_int, le_bool, le_nil, leLL_nil, leLL_cons, leH_cons, leH_nil, leH1_box, leH1_own, leH1_gone, le_vs, le_agg, le_tup, le_ptr, le_own, le_xp, le_fn, le_opt, le_val, le_elem, le_nil_own, le_nil_vs, leH_ghost, leL_chunk, leXL_id, bnd_int, bnd_bool, bnd_val, bnd_nil, bnd_junk, bnd_vs, bnd_xp, bnd_agg, bnd_tup, bnd_ptr, bnd_own, bnd_elem, bnd_fn, bnd_iface, bnd_opt, bndL_nil, bndL_cons, lenH_cons, lenH_nil, imp_self, implies_true, true_and, and_true]
          simp
        · rintro i ⟨hi, hc⟩
          dsimp only [enc2, Int.toNat_natCast, r_end, r_end1, r_nil, r_op, r_opg, r_runOp, r_op0, r_yld0, r_yld1, r_y, r_rbeg, r_rend, r_rend1, r_rfrm, r_rfrm1, r_range, r_rangeK, r_rangeE, r_draw, r_drawT, r_tleaf, r_tops, r_tbr, s_chkF, s_chkT, r_dnil, r_dop, r_dopg, r_dplq, r_dplh, r_dq, r_dq0, r_dcl1, r_dcl0, r_dct1, r_dct0, r_dgd, r_dgq1, r_dgq0, r_dctG, r_op1, r_eff, r_eff0, r_call, r_call0, r_inl, r_g, r_gq, r_gc, r_effg, r_effg0, r_callg, r_callg0, r_fin, r_pre, r_imp, r_all, r_ex, r_fing, r_preg, r_exg, r_inBlock, r_inLoop, r_frame, r_frame1, r_skip, r_stuck, r_region, r_seq, r_cond, r_cond1, r_block, r_exit, r_exit1, r_exit2, r_ret, r_loop, s_args0, s_args1, s_xt, s_xc, u0, u1, u2, w0, w1, noOwn, noOwnL, padL, blankL, callee, calleeM, callArgs, eff, ctOf, ctM, ctI, getL, setL, S.put, S.upd, unopts, unopt, unoptsO, unoptsB, lazyO, guardOf, gbool, eMov, eNot, eNeg, eConv, eExt, eLenArr, eLen, eLenStr, eEqb, eEqv, allEq, eNil, negIf, eBool2, eCmp, eAri, ari, eBit, eDiv, eSh, eMinMax, foldMin, foldMax, kEq, pure1, cmpB, VO.quiet, resVals, resVal, tupled, popRet, popTo, cond, Option.bind, Option.map, eNew, eBox, asCells, lenH, snocH, eFieldAddr, eField, eLoad, cellsAt, getH, setH, dropL, takeL, mkAgg, lenL, lenS, shift, shiftL, shiftH, viewN, viewL, view, andT, junks, List.append_nil, Nat.beq, eIdxAddr, eIdxArr, idxN_0, idxN_1, idxN_2, idxN_3, eIndex, eStore, storeAt, spliceL, ones, one, eSlice, eSliceArr, bounds, subLo_z, addLo_z, subLo_one, addLo_one, eMake, eAppend, readS, repL, buildCells, chunk, purgeL, purgeLL, purgeH, purge, refs, refsL, List.cons_append, List.nil_append, wrOps, wrAl, wrDops, wrC, junkAt, putAll, putHs, headOf, headK, keepG, List.append_eq, headX, VO.isAppend, chkG, chkA, napP, napB, there, wrDtr, chkP, apartP, apartB, blk, strip, runAl, AL.ho, yld, putPs, lenN, findR, notRound, jumpK, jumpPT, jcode, List.map_cons, List.map_nil, ite_self, reduceIte]
          simp only [true_and, and_true, imp_self, implies_true, decide_eq_true_eq, decide_eq_false_iff_not, Nat.reduceAdd, Nat.reduceLeDiff, Bool.not_not, reduceCtorEq, false_imp_iff, Bool.not_eq_true', Bool.not_eq_false', Bool.false_eq_true, and_self, forall_const, ne_eq, not_false_eq_true, Nat.reduceEqDiff]
          refine ⟨fun hlt => ⟨⟨by omega, hlt⟩, fun hb => ans_int ?_, fun hb => ?_⟩, fun hge => ?_⟩
          · have e := ivE_2 ha (i := i) (by omega) (by omega)
            rw [e] at h; exact h
          · refine ⟨i + 1, ⟨by omega, fun j hj => ?_⟩, by omega, ?_⟩
            · rcases Nat.lt_or_ge j i with h' | h'
              · exact hc j h'
              · obtain rfl : j = i := by omega
                omega
            · have hw := w_succ (i := i) (n := l.length) (by omega) (by omega)
              simp only [hw, leS_mk, leL_cons, leL_nil, le_junk, le_int, le_bool, le_nil, leLL_nil, leLL_cons, leH_cons, leH_nil, leH1_box, leH1_own, leH1_gone, le_vs, le_agg, le_tup, le_ptr, le_own, le_xp, le_fn, le_opt, le_val, le_elem, le_nil_own, le_nil_vs, leH_ghost, leL_chunk, leXL_id, bnd_int, bnd_bool, bnd_val, bnd_nil, bnd_junk, bnd_vs, bnd_xp, bnd_agg, bnd_tup, bnd_ptr, bnd_own, bnd_elem, bnd_fn, bnd_iface, bnd_opt, bndL_nil, bndL_cons, lenH_cons, lenH_nil, imp_self, implies_true, true_and, and_true] <;> simp
          · obtain rfl : i = l.length := by omega
            rw [ivE_0 ha hc] at h
            exact ans_int h
  · exact h.1.elim

theorem tim_ok : timC.ok Tryz.prog 59 := by
  refine contract Tryz.func59 v59_is P1_ok 200 timC fun args k h => ⟨args, ?_⟩
  simp only [timC] at h
  split at h
  · rename_i a b
    obtain ⟨⟨ha, hb⟩, h⟩ := h
    refine ⟨by simp [leL, le], ?_⟩
    dsimp only [v59, P1_ct85, P1_ct84, sizC, mul64C, bitI, r_end, r_end1, r_nil, r_op, r_opg, r_runOp, r_op0, r_yld0, r_yld1, r_y, r_rbeg, r_rend, r_rend1, r_rfrm, r_rfrm1, r_range, r_rangeK, r_rangeE, r_draw, r_drawT, r_tleaf, r_tops, r_tbr, s_chkF, s_chkT, r_dnil, r_dop, r_dopg, r_dplq, r_dplh, r_dq, r_dq0, r_dcl1, r_dcl0, r_dct1, r_dct0, r_dgd, r_dgq1, r_dgq0, r_dctG, r_op1, r_eff, r_eff0, r_call, r_call0, r_inl, r_g, r_gq, r_gc, r_effg, r_effg0, r_callg, r_callg0, r_fin, r_pre, r_imp, r_all, r_ex, r_fing, r_preg, r_exg, r_inBlock, r_inLoop, r_frame, r_frame1, r_skip, r_stuck, r_region, r_seq, r_cond, r_cond1, r_block, r_exit, r_exit1, r_exit2, r_ret, r_loop, s_args0, s_args1, s_xt, s_xc, u0, u1, u2, w0, w1, noOwn, noOwnL, padL, blankL, callee, calleeM, callArgs, eff, ctOf, ctM, ctI, getL, setL, S.put, S.upd, unopts, unopt, unoptsO, unoptsB, lazyO, guardOf, gbool, eMov, eNot, eNeg, eConv, eExt, eLenArr, eLen, eLenStr, eEqb, eEqv, allEq, eNil, negIf, eBool2, eCmp, eAri, ari, eBit, eDiv, eSh, eMinMax, foldMin, foldMax, kEq, pure1, cmpB, VO.quiet, resVals, resVal, tupled, popRet, popTo, cond, Option.bind, Option.map, eNew, eBox, asCells, lenH, snocH, eFieldAddr, eField, eLoad, cellsAt, getH, setH, dropL, takeL, mkAgg, lenL, lenS, shift, shiftL, shiftH, viewN, viewL, view, andT, junks, List.append_nil, Nat.beq, eIdxAddr, eIdxArr, idxN_0, idxN_1, idxN_2, idxN_3, eIndex, eStore, storeAt, spliceL, ones, one, eSlice, eSliceArr, bounds, subLo_z, addLo_z, subLo_one, addLo_one, eMake, eAppend, readS, repL, buildCells, chunk, purgeL, purgeLL, purgeH, purge, refs, refsL, List.cons_append, List.nil_append, wrOps, wrAl, wrDops, wrC, junkAt, putAll, putHs, headOf, headK, keepG, List.append_eq, headX, VO.isAppend, chkG, chkA, napP, napB, there, wrDtr, chkP, apartP, apartB, blk, strip, runAl, AL.ho, yld, putPs, lenN, findR, notRound, jumpK, jumpPT, jcode, List.map_cons, List.map_nil, ite_self, reduceIte]
    simp only [true_and, and_true, imp_self, implies_true, decide_eq_true_eq, decide_eq_false_iff_not, Nat.reduceAdd, Nat.reduceLeDiff, Bool.not_not, reduceCtorEq, false_imp_iff, Bool.not_eq_true', Bool.not_eq_false', Bool.false_eq_true, and_self, forall_const, ne_eq, not_false_eq_true, Nat.reduceEqDiff]
    rw [show IntKind.u64.bits = 64 from rfl]
    obtain ⟨P, hP⟩ : ∃ P, P = a.natAbs * b.natAbs := ⟨_, rfl⟩
    have hPb : P ≤ 9223372036854775808 * 9223372036854775808 := by rw [hP]; exact Nat.mul_le_mul (by omega) (by omega)
    have e0 : (a.natAbs : Int) * (b.natAbs : Int) = (P : Int) := by rw [hP]; exact (Int.natCast_mul _ _).symm
    have e1 : (P : Int) / 18446744073709551616 = ((P / 18446744073709551616 : Nat) : Int) := by omega
    have e2 : (P : Int) % 18446744073709551616 = ((P % 18446744073709551616 : Nat) : Int) := by omega
    rw [e0, e1, e2, or_nat6 (by omega) (by omega)]
    refine ⟨ha, hb, ⟨⟨by omega, by omega⟩, by omega, by omega⟩, by decide, by decide, ?_⟩
    have e3 : (a * b).natAbs = P := by rw [hP, Int.natAbs_mul]
    have e4 : (!(decide (a < 0) == decide (b < 0)) && !decide (((P / 18446744073709551616 ||| P % 18446744073709551616 : Nat) : Int) = 0)) = decide (a * b < 0) := by
      have z : decide (((P / 18446744073709551616 ||| P % 18446744073709551616 : Nat) : Int) = 0) = decide (P = 0) := by
        congr 1
        apply propext
        have := @Nat.or_eq_zero_iff (P / 18446744073709551616) (P % 18446744073709551616)
        omega
      rw [z]
      have hz : P = 0 ↔ a = 0 ∨ b = 0 := by rw [hP, Nat.mul_eq_zero]; omega
      rcases Int.lt_trichotomy a 0 with h1 | h1 | h1 <;> rcases Int.lt_trichotomy b 0 with h2 | h2 | h2
      · have := Int.mul_pos_of_neg_of_neg h1 h2
        simp [h1, h2]; omega
      · subst h2; simp [hz]
      · have := Int.mul_neg_of_neg_of_pos h1 h2
        have hb' : ¬ b < 0 := by omega
        simp [h1, hb', this, hz]; omega
      · subst h1; simp [hz]
      · subst h1; simp [hz]
      · subst h1; simp [hz]
      · have := Int.mul_neg_of_pos_of_neg h1 h2
        have ha' : ¬ a < 0 := by omega
        simp [h2, ha', this, hz]; omega
      · subst h2; simp [hz]
      · have := Int.mul_pos h1 h2
        have ha' : ¬ a < 0 := by omega
        have hb' : ¬ b < 0 := by omega
        simp [ha', hb']; omega
    rw [e4]
    have h : k (.agg (longE (a * b))) [] := h
    rw [longE, e3] at h
    exact ans_le (show k _ [] from h) (le_self (.agg [.bool (decide (a * b < 0)), .int .u64 ((P / 18446744073709551616 : Nat) : Int), .int .u64 ((P % 18446744073709551616 : Nat) : Int)]) ⟨trivial, trivial, trivial, trivial⟩) (fun _ => by simp [freshS, freshL])
  · exact h.1.elim
theorem less_ok : lessC.ok Tryz.prog 82 := by
  refine contract Tryz.func82 v82_is P1_ok 200 lessC fun args k h => ⟨args, ?_⟩
  simp only [lessC] at h
  split at h
  · rename_i n hi lo n' hi' lo'
    obtain ⟨x, y, ⟨⟨rfl, rfl, rfl⟩, rfl, rfl, rfl⟩, h⟩ := h
    refine ⟨by simp [leL, le], ?_⟩
    dsimp only [v82, r_end, r_end1, r_nil, r_op, r_opg, r_runOp, r_op0, r_yld0, r_yld1, r_y, r_rbeg, r_rend, r_rend1, r_rfrm, r_rfrm1, r_range, r_rangeK, r_rangeE, r_draw, r_drawT, r_tleaf, r_tops, r_tbr, s_chkF, s_chkT, r_dnil, r_dop, r_dopg, r_dplq, r_dplh, r_dq, r_dq0, r_dcl1, r_dcl0, r_dct1, r_dct0, r_dgd, r_dgq1, r_dgq0, r_dctG, r_op1, r_eff, r_eff0, r_call, r_call0, r_inl, r_g, r_gq, r_gc, r_effg, r_effg0, r_callg, r_callg0, r_fin, r_pre, r_imp, r_all, r_ex, r_fing, r_preg, r_exg, r_inBlock, r_inLoop, r_frame, r_frame1, r_skip, r_stuck, r_region, r_seq, r_cond, r_cond1, r_block, r_exit, r_exit1, r_exit2, r_ret, r_loop, s_args0, s_args1, s_xt, s_xc, u0, u1, u2, w0, w1, noOwn, noOwnL, padL, blankL, callee, calleeM, callArgs, eff, ctOf, ctM, ctI, getL, setL, S.put, S.upd, unopts, unopt, unoptsO, unoptsB, lazyO, guardOf, gbool, eMov, eNot, eNeg, eConv, eExt, eLenArr, eLen, eLenStr, eEqb, eEqv, allEq, eNil, negIf, eBool2, eCmp, eAri, ari, eBit, eDiv, eSh, eMinMax, foldMin, foldMax, kEq, pure1, cmpB, VO.quiet, resVals, resVal, tupled, popRet, popTo, cond, Option.bind, Option.map, eNew, eBox, asCells, lenH, snocH, eFieldAddr, eField, eLoad, cellsAt, getH, setH, dropL, takeL, mkAgg, lenL, lenS, shift, shiftL, shiftH, viewN, viewL, view, andT, junks, List.append_nil, Nat.beq, eIdxAddr, eIdxArr, idxN_0, idxN_1, idxN_2, idxN_3, eIndex, eStore, storeAt, spliceL, ones, one, eSlice, eSliceArr, bounds, subLo_z, addLo_z, subLo_one, addLo_one, eMake, eAppend, readS, repL, buildCells, chunk, purgeL, purgeLL, purgeH, purge, refs, refsL, List.cons_append, List.nil_append, wrOps, wrAl, wrDops, wrC, junkAt, putAll, putHs, headOf, headK, keepG, List.append_eq, headX, VO.isAppend, chkG, chkA, napP, napB, there, wrDtr, chkP, apartP, apartB, blk, strip, runAl, AL.ho, yld, putPs, lenN, findR, notRound, jumpK, jumpPT, jcode, List.map_cons, List.map_nil, ite_self, reduceIte]
    simp only [true_and, and_true, imp_self, implies_true, decide_eq_true_eq, decide_eq_false_iff_not, Nat.reduceAdd, Nat.reduceLeDiff, Bool.not_not, reduceCtorEq, false_imp_iff, Bool.not_eq_true', Bool.not_eq_false', Bool.false_eq_true, and_self, forall_const, ne_eq, not_false_eq_true, Nat.reduceEqDiff]
    refine ⟨fun hc => ans_bool ?_, fun hc => ⟨fun hd => ans_bool ?_, fun hd => ⟨fun h1 h2 => by rw [decide_eq_false h1, decide_eq_true h2]; rfl, ans_bool ?_⟩⟩⟩
    · simp only [Bool.and_eq_true, Bool.and_true, decide_eq_true_eq, beq_iff_eq, decide_eq_decide] at hc
      have : x = y := by omega
      subst this
      have h : k (.bool (decide (x < x))) [] := h
      rw [decide_eq_false (Int.lt_irrefl x)] at h
      exact h
    · have : decide (x < y) = decide (x < 0) := by
        rw [beq_eq_false_iff_ne, ne_eq, decide_eq_decide] at hd
        rw [decide_eq_decide]; omega
      rw [← this]; exact h
    · have : (!((decide (((x.natAbs / 18446744073709551616 : Nat) : Int) < ((y.natAbs / 18446744073709551616 : Nat) : Int)) || decide (((x.natAbs / 18446744073709551616 : Nat) : Int) = ((y.natAbs / 18446744073709551616 : Nat) : Int)) && decide (((x.natAbs % 18446744073709551616 : Nat) : Int) < ((y.natAbs % 18446744073709551616 : Nat) : Int))) == decide (x < 0))) = decide (x < y) := by
        simp only [beq_iff_eq, decide_eq_decide] at hd
        simp only [Bool.and_eq_false_iff, Bool.and_true, decide_eq_false_iff_not, beq_eq_false_iff_ne, ne_eq, decide_eq_decide] at hc
        have e : (decide (((x.natAbs / 18446744073709551616 : Nat) : Int) < ((y.natAbs / 18446744073709551616 : Nat) : Int)) || decide (((x.natAbs / 18446744073709551616 : Nat) : Int) = ((y.natAbs / 18446744073709551616 : Nat) : Int)) && decide (((x.natAbs % 18446744073709551616 : Nat) : Int) < ((y.natAbs % 18446744073709551616 : Nat) : Int))) = decide (x.natAbs < y.natAbs) := by
          rw [Bool.eq_iff_iff]
          simp only [Bool.or_eq_true, Bool.and_eq_true, decide_eq_true_eq]
          omega
        rw [e]
        by_cases hx : x < 0
        · rw [decide_eq_true hx, Bool.eq_iff_iff, Bool.not_eq_true', beq_eq_false_iff_ne, ne_eq, decide_eq_true_eq, decide_eq_true_eq]; omega
        · rw [decide_eq_false hx, Bool.eq_iff_iff, Bool.not_eq_true', beq_eq_false_iff_ne, ne_eq, decide_eq_false_iff_not, decide_eq_true_eq]; omega
      rw [this]; exact h
  · exact h.1.elim
theorem over_ok : overC.ok Tryz.prog 83 := by
  refine contract Tryz.func83 v83_is P1_ok 200 overC fun args k h => ⟨args, ?_⟩
  simp only [overC] at h
  split at h
  · rename_i n hi lo d up
    obtain ⟨x, ⟨⟨rfl, rfl, rfl⟩, hbx, hd0, hd1⟩, h⟩ := h
    refine ⟨by simp [leL, le], ?_⟩
    dsimp only [v83, P1_ct103, div64C, r_end, r_end1, r_nil, r_op, r_opg, r_runOp, r_op0, r_yld0, r_yld1, r_y, r_rbeg, r_rend, r_rend1, r_rfrm, r_rfrm1, r_range, r_rangeK, r_rangeE, r_draw, r_drawT, r_tleaf, r_tops, r_tbr, s_chkF, s_chkT, r_dnil, r_dop, r_dopg, r_dplq, r_dplh, r_dq, r_dq0, r_dcl1, r_dcl0, r_dct1, r_dct0, r_dgd, r_dgq1, r_dgq0, r_dctG, r_op1, r_eff, r_eff0, r_call, r_call0, r_inl, r_g, r_gq, r_gc, r_effg, r_effg0, r_callg, r_callg0, r_fin, r_pre, r_imp, r_all, r_ex, r_fing, r_preg, r_exg, r_inBlock, r_inLoop, r_frame, r_frame1, r_skip, r_stuck, r_region, r_seq, r_cond, r_cond1, r_block, r_exit, r_exit1, r_exit2, r_ret, r_loop, s_args0, s_args1, s_xt, s_xc, u0, u1, u2, w0, w1, noOwn, noOwnL, padL, blankL, callee, calleeM, callArgs, eff, ctOf, ctM, ctI, getL, setL, S.put, S.upd, unopts, unopt, unoptsO, unoptsB, lazyO, guardOf, gbool, eMov, eNot, eNeg, eConv, eExt, eLenArr, eLen, eLenStr, eEqb, eEqv, allEq, eNil, negIf, eBool2, eCmp, eAri, ari, eBit, eDiv, eSh, eMinMax, foldMin, foldMax, kEq, pure1, cmpB, VO.quiet, resVals, resVal, tupled, popRet, popTo, cond, Option.bind, Option.map, eNew, eBox, asCells, lenH, snocH, eFieldAddr, eField, eLoad, cellsAt, getH, setH, dropL, takeL, mkAgg, lenL, lenS, shift, shiftL, shiftH, viewN, viewL, view, andT, junks, List.append_nil, Nat.beq, eIdxAddr, eIdxArr, idxN_0, idxN_1, idxN_2, idxN_3, eIndex, eStore, storeAt, spliceL, ones, one, eSlice, eSliceArr, bounds, subLo_z, addLo_z, subLo_one, addLo_one, eMake, eAppend, readS, repL, buildCells, chunk, purgeL, purgeLL, purgeH, purge, refs, refsL, List.cons_append, List.nil_append, wrOps, wrAl, wrDops, wrC, junkAt, putAll, putHs, headOf, headK, keepG, List.append_eq, headX, VO.isAppend, chkG, chkA, napP, napB, there, wrDtr, chkP, apartP, apartB, blk, strip, runAl, AL.ho, yld, putPs, lenN, findR, notRound, jumpK, jumpPT, jcode, List.map_cons, List.map_nil, ite_self, reduceIte]
    simp only [true_and, and_true, imp_self, implies_true, decide_eq_true_eq, decide_eq_false_iff_not, Nat.reduceAdd, Nat.reduceLeDiff, Bool.not_not, reduceCtorEq, false_imp_iff, Bool.not_eq_true', Bool.not_eq_false', Bool.false_eq_true, and_self, forall_const, ne_eq, not_false_eq_true, Nat.reduceEqDiff]
    obtain ⟨d, rfl⟩ := Int.eq_ofNat_of_zero_le (by omega : 0 ≤ d)
    obtain ⟨m, hm⟩ : ∃ m, m = x.natAbs := ⟨_, rfl⟩
    have hT := rnd_abs (up := up) (x := x) (d := d) (by omega)
    have e0 : ((m / 18446744073709551616 : Nat) : Int) * 18446744073709551616 + ((m % 18446744073709551616 : Nat) : Int) = m := by omega
    have e1 : (m : Int) / (d : Int) = ((m / d : Nat) : Int) := (Int.natCast_ediv _ _).symm
    have e2 : (m : Int) % (d : Int) = ((m % d : Nat) : Int) := (Int.natCast_emod _ _).symm
    rw [← hm] at hT ⊢
    rw [e0, e1, e2]
    have hF : rndF up x d = rndB (nsg (decide (x < 0)) (m / d + bump up (decide (x < 0)) (m % d))) := by unfold rndF; rw [hT]
    have hfail : 4611686018427387904 < m / d + bump up (decide (x < 0)) (m % d) → rndF up x d = (0, false) := fun hh => by
      rw [hF, rndB, if_neg]
      have := nsg_abs (decide (x < 0)) (m / d + bump up (decide (x < 0)) (m % d))
      omega
    have hgood : m / d + bump up (decide (x < 0)) (m % d) ≤ 4611686018427387904 → rndF up x d = (nsg (decide (x < 0)) (m / d + bump up (decide (x < 0)) (m % d)), true) := fun hh => by
      rw [hF, rndB, if_pos]
      have := nsg_abs (decide (x < 0)) (m / d + bump up (decide (x < 0)) (m % d))
      omega
    have h : k (.tup [.int .i64 (rndF up x d).1, .bool (rndF up x d).2]) [] := h
    have fin : ∀ (t : Int) (b : Bool) (hp : List HO), rndF up x d = (t, b) → answers overC.alias k (.tup [.int .i64 t, .bool b]) hp := fun t b hp hh => by
      rw [hh] at h
      exact ans_le (show k _ [] from h) (le_self (.tup [.int .i64 t, .bool b]) ⟨trivial, trivial, trivial⟩) (fun _ => by simp [freshS, freshL])
    have hQ1 : ¬ (d : Int) ≤ ((m / 18446744073709551616 : Nat) : Int) → m / d < 18446744073709551616 := fun hc => by
      rw [Nat.div_lt_iff_lt_mul (by omega)]
      have h1 : m / 18446744073709551616 < d := by omega
      rw [Nat.div_lt_iff_lt_mul (by decide)] at h1
      rw [Nat.mul_comm]; exact h1
    have hQ2 : (d : Int) ≤ ((m / 18446744073709551616 : Nat) : Int) → 18446744073709551616 ≤ m / d := fun hc => by
      rw [Nat.le_div_iff_mul_le (by omega)]
      have h1 : d ≤ m / 18446744073709551616 := by omega
      rw [Nat.le_div_iff_mul_le (by decide)] at h1
      rw [Nat.mul_comm]; exact h1
    have hd0' : (0 : Int) < (d : Int) := hd0
    clear hT e1 e2
    generalize m / d = Q at *
    generalize m % d = R at *
    have ez : (!decide ((R : Int) = 0)) = decide (R ≠ 0) := by
      rw [← decide_not]; congr 1; exact propext (by omega)
    refine ⟨fun hc => fin _ _ _ (hfail ?_), fun hc => ⟨⟨⟨by omega, by omega⟩, by omega, by omega, by omega⟩, by decide, by decide, fun hb => ?_, fun hb => ?_⟩⟩
    · have := hQ2 hc
      omega
    · have hQ := hQ1 hc
      rw [ez] at hb ⊢
      have hbump : bump up (decide (x < 0)) (R) = 1 := by unfold bump; exact if_pos hb
      rw [hbump] at hfail hgood
      have hcond : ∀ w : Int, ((decide (4611686018427387904 < w) || decide (w = 0) && decide (R ≠ 0) && !(up == decide (x < 0))) = true ↔ 4611686018427387904 < w ∨ w = 0) := fun w => by
        rw [Bool.and_assoc, hb, Bool.and_true, Bool.or_eq_true, decide_eq_true_eq, decide_eq_true_eq]
      have hw : (4611686018427387904 < IntKind.u64.wrap ((Q : Int) + 1) ∨ IntKind.u64.wrap ((Q : Int) + 1) = 0) ↔ 4611686018427387904 < Q + 1 := by
        rw [u_mod]; omega
      refine ⟨fun h1 h2 => by rw [decide_eq_false h1, decide_eq_true h2]; rfl, fun h1 h2 => by rw [decide_eq_false h1, h2]; rfl, fun hcc => fin _ _ _ (hfail (hw.1 ((hcond _).1 hcc))), fun hcc => ?_⟩
      have hsm : Q + 1 ≤ 4611686018427387904 := by
        refine Nat.le_of_not_lt fun hh => ?_
        have := (hcond _).2 (hw.2 hh)
        rw [hcc] at this; cases this
      have hg := hgood hsm
      rw [IntWalk.u64_in _ (by omega)]
      refine ⟨fun hx => fin _ _ _ ?_, fun hx => fin _ _ _ ?_⟩
      · rw [hg, IntWalk.i64_in ((Q : Int) + 1) (by omega), IntWalk.i64_in _ (by omega)]
        unfold nsg
        simp only [hx, decide_true, if_true]
        congr 1 <;> omega
      · rw [hg, IntWalk.i64_in _ (by omega)]
        unfold nsg
        simp only [hx, decide_false, Bool.false_eq_true, if_false]
        rfl
    · have hQ := hQ1 hc
      rw [ez] at hb ⊢
      have hbump : bump up (decide (x < 0)) (R) = 0 := by unfold bump; exact if_neg (by rw [show (up != decide (x < 0)) = !(up == decide (x < 0)) from rfl, hb]; simp)
      rw [hbump, Nat.add_zero] at hfail hgood
      have hcond : ∀ w : Int, ((decide (4611686018427387904 < w) || decide (w = 0) && decide (R ≠ 0) && !(up == decide (x < 0))) = true ↔ 4611686018427387904 < w) := fun w => by
        rw [Bool.and_assoc, hb, Bool.and_false, Bool.or_false, decide_eq_true_eq]
      refine ⟨fun h1 h2 => by rw [decide_eq_false h1, decide_eq_true h2]; rfl, fun h1 h2 => by rw [decide_eq_false h1, h2]; rfl, fun hcc => fin _ _ _ (hfail (by have := (hcond _).1 hcc; omega)), fun hcc => ?_⟩
      have hsm : Q ≤ 4611686018427387904 := by
        refine Nat.le_of_not_lt fun hh => ?_
        have := (hcond (Q : Int)).2 (by omega)
        rw [hcc] at this; cases this
      have hg := hgood hsm
      refine ⟨fun hx => fin _ _ _ ?_, fun hx => fin _ _ _ ?_⟩
      · rw [hg, IntWalk.i64_in (Q : Int) (by omega), IntWalk.i64_in _ (by omega)]
        unfold nsg
        simp only [hx, decide_true, if_true]
        congr 1 <;> omega
      · rw [hg, IntWalk.i64_in _ (by omega)]
        unfold nsg
        simp only [hx, decide_false, Bool.false_eq_true, if_false]
  · exact h.1.elim
def P2 : Env := { ct := fun n => match n with | 57 => some numC | 82 => some lessC | 83 => some overC | _ => none, fn := fun _ => none, meth := fun _ _ => none }
theorem P2_ct82 : P2.ct 82 = some lessC := rfl
theorem P2_ct83 : P2.ct 83 = some overC := rfl
theorem P2_ok : EnvOk Tryz.prog P2 := by
  refine ⟨fun f c h => ?_, fun f vf h => ?_, (fun _ _ _ h => by cases h), by kernel_rfl⟩
  · simp only [P2] at h
    split at h
    · cases h; exact ⟨num_ok, Tryz.f57, Tryz.func57, by kernel_rfl, by kernel_rfl⟩
    · cases h; exact ⟨less_ok, Tryz.f82, Tryz.func82, by kernel_rfl, by kernel_rfl⟩
    · cases h; exact ⟨over_ok, Tryz.f83, Tryz.func83, by kernel_rfl, by kernel_rfl⟩
    · cases h
  · cases h


theorem span_ok : spanC.ok Tryz.prog 58 := by
  refine contract Tryz.func58 v58_is P2_ok 400 spanC fun args k h => ?_
  simp only [spanC] at h
  split at h
  · rename_i d tt z n sz get
    obtain ⟨x, r, ⟨⟨rfl, rfl, hg⟩, hmax, hbig, hd0, hd1⟩, h⟩ := h
    refine ⟨[.int .u64 d, .vs tt z (x :: r).length 3 (fun k => longE ((x :: r).getD k default))], ⟨⟨rfl, rfl⟩, by simpa [le] using hg, trivial⟩, ?_⟩
    dsimp only [v58, longE, r_end, r_end1, r_nil, r_op, r_opg, r_runOp, r_op0, r_yld0, r_yld1, r_y, r_rbeg, r_rend, r_rend1, r_rfrm, r_rfrm1, r_range, r_rangeK, r_rangeE, r_draw, r_drawT, r_tleaf, r_tops, r_tbr, s_chkF, s_chkT, r_dnil, r_dop, r_dopg, r_dplq, r_dplh, r_dq, r_dq0, r_dcl1, r_dcl0, r_dct1, r_dct0, r_dgd, r_dgq1, r_dgq0, r_dctG, r_op1, r_eff, r_eff0, r_call, r_call0, r_inl, r_g, r_gq, r_gc, r_effg, r_effg0, r_callg, r_callg0, r_fin, r_pre, r_imp, r_all, r_ex, r_fing, r_preg, r_exg, r_inBlock, r_inLoop, r_frame, r_frame1, r_skip, r_stuck, r_region, r_seq, r_cond, r_cond1, r_block, r_exit, r_exit1, r_exit2, r_ret, r_loop, s_args0, s_args1, s_xt, s_xc, u0, u1, u2, w0, w1, noOwn, noOwnL, padL, blankL, callee, calleeM, callArgs, eff, ctOf, ctM, ctI, getL, setL, S.put, S.upd, unopts, unopt, unoptsO, unoptsB, lazyO, guardOf, gbool, eMov, eNot, eNeg, eConv, eExt, eLenArr, eLen, eLenStr, eEqb, eEqv, allEq, eNil, negIf, eBool2, eCmp, eAri, ari, eBit, eDiv, eSh, eMinMax, foldMin, foldMax, kEq, pure1, cmpB, VO.quiet, resVals, resVal, tupled, popRet, popTo, cond, Option.bind, Option.map, eNew, eBox, asCells, lenH, snocH, eFieldAddr, eField, eLoad, cellsAt, getH, setH, dropL, takeL, mkAgg, lenL, lenS, shift, shiftL, shiftH, viewN, viewL, view, andT, junks, List.append_nil, Nat.beq, eIdxAddr, eIdxArr, idxN_0, idxN_1, idxN_2, idxN_3, eIndex, eStore, storeAt, spliceL, ones, one, eSlice, eSliceArr, bounds, subLo_z, addLo_z, subLo_one, addLo_one, eMake, eAppend, readS, repL, buildCells, chunk, purgeL, purgeLL, purgeH, purge, refs, refsL, List.cons_append, List.nil_append, wrOps, wrAl, wrDops, wrC, junkAt, putAll, putHs, headOf, headK, keepG, List.append_eq, headX, VO.isAppend, chkG, chkA, napP, napB, there, wrDtr, chkP, apartP, apartB, blk, strip, runAl, AL.ho, yld, putPs, lenN, findR, notRound, jumpK, jumpPT, jcode, List.map_cons, List.map_nil, ite_self, reduceIte]
    simp only [true_and, and_true, imp_self, implies_true, decide_eq_true_eq, decide_eq_false_iff_not, Nat.reduceAdd, Nat.reduceLeDiff, Bool.not_not, reduceCtorEq, false_imp_iff, Bool.not_eq_true', Bool.not_eq_false', Bool.false_eq_true, and_self, forall_const, ne_eq, not_false_eq_true, Nat.reduceEqDiff]
    have hlen : ((x :: r).length : Int) = r.length + 1 := by simp
    refine ⟨⟨by decide, by omega⟩, ⟨by decide, by omega⟩, ⟨by decide, by omega⟩, ?_⟩
    have hlen2 : (x :: r).length - (0 + 1) = r.length := by simp
    refine Loop.keep [0, 0, 2, 0, 0, 0, 13, 0] Nat (fun i => [(23, .int .i64 i)]) (fun i => [(1, .box (longE (lowI x (r.take i)))), (2, .box (longE (highI x (r.take i))))]) [] (fun i => i ≤ r.length) (fun i => r.length - i) ?_ ?_
    · refine ⟨0, Nat.zero_le _, ?_⟩
      dsimp only [longE, r_end, r_end1, r_nil, r_op, r_opg, r_runOp, r_op0, r_yld0, r_yld1, r_y, r_rbeg, r_rend, r_rend1, r_rfrm, r_rfrm1, r_range, r_rangeK, r_rangeE, r_draw, r_drawT, r_tleaf, r_tops, r_tbr, s_chkF, s_chkT, r_dnil, r_dop, r_dopg, r_dplq, r_dplh, r_dq, r_dq0, r_dcl1, r_dcl0, r_dct1, r_dct0, r_dgd, r_dgq1, r_dgq0, r_dctG, r_op1, r_eff, r_eff0, r_call, r_call0, r_inl, r_g, r_gq, r_gc, r_effg, r_effg0, r_callg, r_callg0, r_fin, r_pre, r_imp, r_all, r_ex, r_fing, r_preg, r_exg, r_inBlock, r_inLoop, r_frame, r_frame1, r_skip, r_stuck, r_region, r_seq, r_cond, r_cond1, r_block, r_exit, r_exit1, r_exit2, r_ret, r_loop, s_args0, s_args1, s_xt, s_xc, u0, u1, u2, w0, w1, noOwn, noOwnL, padL, blankL, callee, calleeM, callArgs, eff, ctOf, ctM, ctI, getL, setL, S.put, S.upd, unopts, unopt, unoptsO, unoptsB, lazyO, guardOf, gbool, eMov, eNot, eNeg, eConv, eExt, eLenArr, eLen, eLenStr, eEqb, eEqv, allEq, eNil, negIf, eBool2, eCmp, eAri, ari, eBit, eDiv, eSh, eMinMax, foldMin, foldMax, kEq, pure1, cmpB, VO.quiet, resVals, resVal, tupled, popRet, popTo, cond, Option.bind, Option.map, eNew, eBox, asCells, lenH, snocH, eFieldAddr, eField, eLoad, cellsAt, getH, setH, dropL, takeL, mkAgg, lenL, lenS, shift, shiftL, shiftH, viewN, viewL, view, andT, junks, List.append_nil, Nat.beq, eIdxAddr, eIdxArr, idxN_0, idxN_1, idxN_2, idxN_3, eIndex, eStore, storeAt, spliceL, ones, one, eSlice, eSliceArr, bounds, subLo_z, addLo_z, subLo_one, addLo_one, eMake, eAppend, readS, repL, buildCells, chunk, purgeL, purgeLL, purgeH, purge, refs, refsL, List.cons_append, List.nil_append, wrOps, wrAl, wrDops, wrC, junkAt, putAll, putHs, headOf, headK, keepG, List.append_eq, headX, VO.isAppend, chkG, chkA, napP, napB, there, wrDtr, chkP, apartP, apartB, blk, strip, runAl, AL.ho, yld, putPs, lenN, findR, notRound, jumpK, jumpPT, jcode, List.map_cons, List.map_nil, ite_self, reduceIte]
      simp only [leS_mk, leL_cons, leL_nil, le_junk, le_int, le_bool, le_nil, leLL_nil, leLL_cons, leH_cons, leH_nil, leH1_box, leH1_own, leH1_gone, le_vs, le_agg, le_tup, le_ptr, le_own, le_xp, le_fn, le_opt, le_val, le_elem, le_nil_own, le_nil_vs, leH_ghost, leL_chunk, leXL_id, bnd_int, bnd_bool, bnd_val, bnd_nil, bnd_junk, bnd_vs, bnd_xp, bnd_agg, bnd_tup, bnd_ptr, bnd_own, bnd_elem, bnd_fn, bnd_iface, bnd_opt, bndL_nil, bndL_cons, lenH_cons, lenH_nil, imp_self, implies_true, true_and, and_true]
      refine ⟨by simp, ?_, ?_⟩ <;> simp [lowI, highI] <;> rfl
    · rintro i hi
      dsimp only [P2_ct82, P2_ct83, lessC, overC, longE, Int.toNat_natCast, r_end, r_end1, r_nil, r_op, r_opg, r_runOp, r_op0, r_yld0, r_yld1, r_y, r_rbeg, r_rend, r_rend1, r_rfrm, r_rfrm1, r_range, r_rangeK, r_rangeE, r_draw, r_drawT, r_tleaf, r_tops, r_tbr, s_chkF, s_chkT, r_dnil, r_dop, r_dopg, r_dplq, r_dplh, r_dq, r_dq0, r_dcl1, r_dcl0, r_dct1, r_dct0, r_dgd, r_dgq1, r_dgq0, r_dctG, r_op1, r_eff, r_eff0, r_call, r_call0, r_inl, r_g, r_gq, r_gc, r_effg, r_effg0, r_callg, r_callg0, r_fin, r_pre, r_imp, r_all, r_ex, r_fing, r_preg, r_exg, r_inBlock, r_inLoop, r_frame, r_frame1, r_skip, r_stuck, r_region, r_seq, r_cond, r_cond1, r_block, r_exit, r_exit1, r_exit2, r_ret, r_loop, s_args0, s_args1, s_xt, s_xc, u0, u1, u2, w0, w1, noOwn, noOwnL, padL, blankL, callee, calleeM, callArgs, eff, ctOf, ctM, ctI, getL, setL, S.put, S.upd, unopts, unopt, unoptsO, unoptsB, lazyO, guardOf, gbool, eMov, eNot, eNeg, eConv, eExt, eLenArr, eLen, eLenStr, eEqb, eEqv, allEq, eNil, negIf, eBool2, eCmp, eAri, ari, eBit, eDiv, eSh, eMinMax, foldMin, foldMax, kEq, pure1, cmpB, VO.quiet, resVals, resVal, tupled, popRet, popTo, cond, Option.bind, Option.map, eNew, eBox, asCells, lenH, snocH, eFieldAddr, eField, eLoad, cellsAt, getH, setH, dropL, takeL, mkAgg, lenL, lenS, shift, shiftL, shiftH, viewN, viewL, view, andT, junks, List.append_nil, Nat.beq, eIdxAddr, eIdxArr, idxN_0, idxN_1, idxN_2, idxN_3, eIndex, eStore, storeAt, spliceL, ones, one, eSlice, eSliceArr, bounds, subLo_z, addLo_z, subLo_one, addLo_one, eMake, eAppend, readS, repL, buildCells, chunk, purgeL, purgeLL, purgeH, purge, refs, refsL, List.cons_append, List.nil_append, wrOps, wrAl, wrDops, wrC, junkAt, putAll, putHs, headOf, headK, keepG, List.append_eq, headX, VO.isAppend, chkG, chkA, napP, napB, there, wrDtr, chkP, apartP, apartB, blk, strip, runAl, AL.ho, yld, putPs, lenN, findR, notRound, jumpK, jumpPT, jcode, List.map_cons, List.map_nil, ite_self, reduceIte]
      simp only [true_and, and_true, imp_self, implies_true, decide_eq_true_eq, decide_eq_false_iff_not, Nat.reduceAdd, Nat.reduceLeDiff, Bool.not_not, reduceCtorEq, false_imp_iff, Bool.not_eq_true', Bool.not_eq_false', Bool.false_eq_true, and_self, forall_const, ne_eq, not_false_eq_true, Nat.reduceEqDiff]
      have ey : (x :: r).getD (1 + i) default = r.getD i default := by rw [Nat.add_comm]; rfl
      have elen : (((x :: r).length - 1 : Nat) : Int) = r.length := by simp
      simp only [ey, elen]
      refine ⟨fun hlt => ⟨⟨by omega, by omega⟩, r.getD i default, lowI x (r.take i), ⟨longP_self _, longP_self _⟩, ?_⟩, fun hge => ?_⟩
      · have eL : lowI x (r.take (i + 1)) = if r.getD i default < lowI x (r.take i) then r.getD i default else lowI x (r.take i) := foldl_take_succ (by omega)
        have eH : highI x (r.take (i + 1)) = if highI x (r.take i) < r.getD i default then r.getD i default else highI x (r.take i) := foldl_take_succ (by omega)
        have hw := w_succ (i := i) (n := r.length) (by omega) (by omega)
        refine ⟨fun h1 => ⟨highI x (r.take i), r.getD i default, ⟨longP_self _, longP_self _⟩, fun h2 => ⟨i + 1, by omega, by omega, ?_⟩, fun h2 => ⟨i + 1, by omega, by omega, ?_⟩⟩,
          fun h1 => ⟨highI x (r.take i), r.getD i default, ⟨longP_self _, longP_self _⟩, fun h2 => ⟨i + 1, by omega, by omega, ?_⟩, fun h2 => ⟨i + 1, by omega, by omega, ?_⟩⟩⟩
        · simp only [eL, eH, if_pos h1, if_pos h2, hw, leS_mk, leL_cons, leL_nil, le_junk, le_int, le_bool, le_nil, leLL_nil, leLL_cons, leH_cons, leH_nil, leH1_box, leH1_own, leH1_gone, le_vs, le_agg, le_tup, le_ptr, le_own, le_xp, le_fn, le_opt, le_val, le_elem, le_nil_own, le_nil_vs, leH_ghost, leL_chunk, leXL_id, bnd_int, bnd_bool, bnd_val, bnd_nil, bnd_junk, bnd_vs, bnd_xp, bnd_agg, bnd_tup, bnd_ptr, bnd_own, bnd_elem, bnd_fn, bnd_iface, bnd_opt, bndL_nil, bndL_cons, lenH_cons, lenH_nil, imp_self, implies_true, true_and, and_true]
          simp
        · simp only [eL, eH, if_pos h1, if_neg h2, hw, leS_mk, leL_cons, leL_nil, le_junk, le_int, le_bool, le_nil, leLL_nil, leLL_cons, leH_cons, leH_nil, leH1_box, leH1_own, leH1_gone, le_vs, le_agg, le_tup, le_ptr, le_own, le_xp, le_fn, le_opt, le_val, le_elem, le_nil_own, le_nil_vs, leH_ghost, leL_chunk, leXL_id, bnd_int, bnd_bool, bnd_val, bnd_nil, bnd_junk, bnd_vs, bnd_xp, bnd_agg, bnd_tup, bnd_ptr, bnd_own, bnd_elem, bnd_fn, bnd_iface, bnd_opt, bndL_nil, bndL_cons, lenH_cons, lenH_nil, imp_self, implies_true, true_and, and_true]
          simp
        · simp only [eL, eH, if_neg h1, if_pos h2, hw, leS_mk, leL_cons, leL_nil, le_junk, le_int, le_bool, le_nil, leLL_nil, leLL_cons, leH_cons, leH_nil, leH1_box, leH1_own, leH1_gone, le_vs, le_agg, le_tup, le_ptr, le_own, le_xp, le_fn, le_opt, le_val, le_elem, le_nil_own, le_nil_vs, leH_ghost, leL_chunk, leXL_id, bnd_int, bnd_bool, bnd_val, bnd_nil, bnd_junk, bnd_vs, bnd_xp, bnd_agg, bnd_tup, bnd_ptr, bnd_own, bnd_elem, bnd_fn, bnd_iface, bnd_opt, bndL_nil, bndL_cons, lenH_cons, lenH_nil, imp_self, implies_true, true_and, and_true]
          simp
        · simp only [eL, eH, if_neg h1, if_neg h2, hw, leS_mk, leL_cons, leL_nil, le_junk, le_int, le_bool, le_nil, leLL_nil, leLL_cons, leH_cons, leH_nil, leH1_box, leH1_own, leH1_gone, le_vs, le_agg, le_tup, le_ptr, le_own, le_xp, le_fn, le_opt, le_val, le_elem, le_nil_own, le_nil_vs, leH_ghost, leL_chunk, leXL_id, bnd_int, bnd_bool, bnd_val, bnd_nil, bnd_junk, bnd_vs, bnd_xp, bnd_agg, bnd_tup, bnd_ptr, bnd_own, bnd_elem, bnd_fn, bnd_iface, bnd_opt, bndL_nil, bndL_cons, lenH_cons, lenH_nil, imp_self, implies_true, true_and, and_true]
          simp
      · obtain rfl : i = r.length := by omega
        rw [List.take_length]
        have hl := lowI_spec x r
        have hh := highI_spec x r
        refine ⟨lowI x r, ⟨longP_self _, hbig _ hl.1, hd0, hd1⟩, by decide, by decide, highI x r, ⟨longP_self _, hbig _ hh.1, hd0, hd1⟩, by decide, by decide, ?_⟩
        have h : k (.tup [.agg (enc2 (spanI d x r).1), .int .i64 (spanI d x r).2]) [] := h
        unfold spanI spanR at h
        refine ⟨fun hb => ?_, fun hb => ?_⟩
        · rw [if_neg (by rw [← Bool.not_and, Bool.not_eq_true'] at hb; rw [hb]; simp)] at h
          exact ans_le (show k _ [] from h) (le_self (.tup [.agg (enc2 (0, 0)), .int .i64 7]) ⟨⟨trivial, trivial, trivial⟩, trivial, trivial⟩) (fun _ => by simp [enc2, freshS, freshL])
        · rw [if_pos (by rw [← Bool.not_and, Bool.not_eq_false'] at hb; exact hb)] at h
          exact ans_le (show k _ [] from h) (le_self (.tup [.agg (enc2 ((rndF false (lowI x r) d).1, (rndF true (highI x r) d).1)), .int .i64 0]) ⟨⟨trivial, trivial, trivial⟩, trivial, trivial⟩) (fun _ => by simp [enc2, freshS, freshL])
  · exact h.1.elim
end Go.Proofs.YtngccjllkgpjmaaGreat

/- Intervals, walked: the program's functions. -/
/- Intervals, walked: the program's functions. -/
set_option linter.all false
namespace Go.Proofs.YtngccjllkgpjmaaGreat
open Go Go.Vx
set_option maxRecDepth 100000
set_option maxHeartbeats 4000000

def v34 : VF := { ntmps := 45, res := [.cell 6 true 2, .tmp 7], body :=
 (.seq (.region [u1 3 .box [.tm 0],
 u1 6 (.alloc [(.int .i64 0), (.int .i64 0)]) [],
 u1 7 .mov [.cn (.int .i64 0)]])
 (.seq (.region [u1 9 (.load true 2) [.tm 3],
 u1 10 (.buildSlice 2 1 [(.int .i64 0), (.int .i64 0)] [(0, 2)]) [.tm 9],
 u1 11 (.call 56) [.tm 10],
 u1 8 .mov [.tm 11]])
 (.seq (.block 0 (.seq (.region [u1 13 .mov [.tm 8],
 u1 14 (.cmp .neq) [.tm 13, .cn (.int .i64 0)],
 u1 12 .mov [.tm 14]])
 (.cond (.tm 12) (.seq (.region [u1 15 (.build [(.int .i64 0), (.int .i64 0)] []) [],
 u1 16 .mov [.tm 8],
 u0 (.store 2) [.tm 6, .tm 15],
 u1 7 .mov [.tm 16]])
 .ret)
  (.seq (.region [u1 18 .mov [.tm 2],
 u1 19 (.cmp .lss) [.tm 18, .cn (.int .i64 1)],
 u1 20 .mov [.tm 19],
 u2 21 20 false .mov [.tm 2],
 u2 22 20 false (.call 57) [.tm 21],
 u2 23 20 false .not [.tm 22],
 u1 24 .or [.tm 20, .tm 23],
 u1 25 .mov [.tm 24],
 u2 26 25 false .mov [.tm 1],
 u2 27 25 false (.call 57) [.tm 26],
 u2 28 25 false .not [.tm 27],
 u1 29 .or [.tm 25, .tm 28],
 u1 17 .mov [.tm 29]])
 (.cond (.tm 17) (.seq (.region [u1 30 (.build [(.int .i64 0), (.int .i64 0)] []) [],
 u0 (.store 2) [.tm 6, .tm 30],
 u1 7 .mov [.cn (.int .i64 2)]])
 .ret)
  .skip)))))
 (.seq (.draw [] [w1 31 .mov [.tm 2],
 w1 32 (.conv .u64) [.tm 31],
 w1 33 (.fieldAddr 0) [.tm 3],
 w1 34 (.load false 1) [.tm 33],
 w1 35 .mov [.tm 1],
 w1 37 (.fieldAddr 1) [.tm 3],
 w1 38 (.load false 1) [.tm 37],
 w1 39 .mov [.tm 1],
 w1 36 (.call 59) [.tm 34, .tm 35],
 w1 40 (.call 59) [.tm 38, .tm 39],
 w1 41 (.buildSlice 3 2 [(.bool false), (.int .u64 0), (.int .u64 0)] [(0, 3), (3, 3)]) [.tm 36, .tm 40],
 w1 42 (.call 58) [.tm 32, .tm 41],
 w1 43 (.ext 0) [.tm 42],
 w1 44 (.ext 1) [.tm 42],
 w0 (.store 2) [.tm 6, .tm 43],
 w1 7 .mov [.tm 44]])
 .ret)))) }
theorem v34_is : vfunc Tryz.prog Tryz.f34 = some v34 := by kernel_rfl


def iv1C : Ctr := { alias := false, of := fun a => match a with | [.agg [.int .i64 x, .int .i64 y]] => .fin (.int .i64 (ivE [(x, y)])) [] | _ => noC }
/-- Of two intervals, or one. -/
def iv2C (f : Iv → Iv → Iv × Int) : Ctr := { alias := false, of := fun a => match a with
  | [.agg [.int .i64 x, .int .i64 y], .agg [.int .i64 z, .int .i64 w]] => .fin (.tup [.agg (enc2 (f (x, y) (z, w)).1), .int .i64 (f (x, y) (z, w)).2]) []
  | _ => noC }
def ivoC (f : Iv → Iv × Int) : Ctr := { alias := false, of := fun a => match a with
  | [.agg [.int .i64 x, .int .i64 y]] => .fin (.tup [.agg (enc2 (f (x, y)).1), .int .i64 (f (x, y)).2]) []
  | _ => noC }
def addC := iv2C addF
def sclC : Ctr := { alias := false, of := fun a => match a with
  | [.agg [.int .i64 x, .int .i64 y], .int .i64 n, .int .i64 d] => .fin (.tup [.agg (enc2 (sclF (x, y) n d).1), .int .i64 (sclF (x, y) n d).2]) []
  | _ => noC }
theorem ans_iv {k : SV → List HO → Prop} {al : Bool} {hp : List HO} {r : Iv × Int} (h : k (.tup [.agg (enc2 r.1), .int .i64 r.2]) []) : answers al k (.tup [.agg [.int .i64 r.1.1, .int .i64 r.1.2], .int .i64 r.2]) hp :=
  ans_le (show k _ [] from h) (le_self (.tup [.agg (enc2 r.1), .int .i64 r.2]) ⟨⟨trivial, trivial, trivial⟩, trivial, trivial⟩) (fun _ => by simp [enc2, freshS, freshL])
theorem big_mul {a b : Int} (ha : -9223372036854775808 ≤ a ∧ a ≤ 9223372036854775808) (hb : -9223372036854775808 ≤ b ∧ b ≤ 9223372036854775808) : big (a * b) := by
  unfold big
  rw [Int.natAbs_mul]
  have := Nat.mul_le_mul (show a.natAbs ≤ 9223372036854775808 by omega) (show b.natAbs ≤ 9223372036854775808 by omega)
  omega
def P4 : Env := { ct := fun n => match n with | 57 => some numC | 56 => some ivlC | 59 => some timC | 83 => some overC | 58 => some spanC | _ => none, fn := fun _ => none, meth := fun _ _ => none }
theorem P4_ct57 : P4.ct 57 = some numC := rfl
theorem P4_ct56 : P4.ct 56 = some ivlC := rfl
theorem P4_ct59 : P4.ct 59 = some timC := rfl
theorem P4_ct58 : P4.ct 58 = some spanC := rfl
theorem P4_ok : EnvOk Tryz.prog P4 := by
  refine ⟨fun f c h => ?_, fun f vf h => ?_, (fun _ _ _ h => by cases h), by kernel_rfl⟩
  · simp only [P4] at h
    split at h
    · cases h; exact ⟨num_ok, Tryz.f57, Tryz.func57, by kernel_rfl, by kernel_rfl⟩
    · cases h; exact ⟨ivl_ok, Tryz.f56, Tryz.func56, by kernel_rfl, by kernel_rfl⟩
    · cases h; exact ⟨tim_ok, Tryz.f59, Tryz.func59, by kernel_rfl, by kernel_rfl⟩
    · cases h; exact ⟨over_ok, Tryz.f83, Tryz.func83, by kernel_rfl, by kernel_rfl⟩
    · cases h; exact ⟨span_ok, Tryz.f58, Tryz.func58, by kernel_rfl, by kernel_rfl⟩
    · cases h
  · cases h


theorem scl_ok : sclC.ok Tryz.prog 34 := by
  refine contract Tryz.func34 v34_is P4_ok 200 sclC fun args k h => ⟨args, ?_⟩
  simp only [sclC] at h
  split at h
  · rename_i x y n d
    refine ⟨by simp [leL, le], ?_⟩
    (try dsimp only [v34, P4_ct56, P4_ct57, P4_ct59, P4_ct58, ivlC, numC, timC, spanC, longE, enc2, go_sem, Option.bind, Option.map, List.append_nil, Nat.beq, List.cons_append, List.nil_append, List.append_eq, List.map_cons, List.map_nil, ite_self, reduceIte])
    (try simp only [true_and, and_true, imp_self, implies_true, decide_eq_true_eq, decide_eq_false_iff_not, Nat.reduceAdd, Nat.reduceLeDiff, Bool.not_not, reduceCtorEq, false_imp_iff, Bool.not_eq_true', Bool.not_eq_false', Bool.false_eq_true, and_self, forall_const, ne_eq, not_false_eq_true, Nat.reduceEqDiff])
    have h : k (.tup [.agg (enc2 (sclF (x, y) n d).1), .int .i64 (sclF (x, y) n d).2]) [] := h
    refine ⟨by decide, [(x, y)], ⟨⟨rfl, rfl, fun k hk => match k, hk with | 0, _ => leXL_self _⟩, by simp⟩, ?_⟩
    refine ⟨fun hc => ?_, fun hc => ?_⟩
    · rw [sclF, if_pos hc] at h
      exact ans_iv (r := errI (ivE [(x, y)])) h
    · obtain ⟨h1, h2, h3⟩ := ivE1 hc
      dsimp only at h1 h2 h3
      rw [sclF, if_neg (by rw [hc]; simp)] at h
      dsimp only at h
      have hnd := numOk_iff (x := d)
      have hnn := numOk_iff (x := n)
      have hcond : (decide (d < 1) || !numOk d || !numOk n) = true ↔ (d < 1 ∨ 4611686018427387904 < d ∨ n < -4611686018427387904 ∨ 4611686018427387904 < n) := by
        rw [Bool.or_eq_true, Bool.or_eq_true, decide_eq_true_eq, Bool.not_eq_true', Bool.not_eq_true', Bool.eq_false_iff, Bool.eq_false_iff, ne_eq, ne_eq, hnd, hnn]
        omega
      refine ⟨fun hb => ?_, fun hb => ?_⟩
      · rw [if_pos (hcond.1 hb)] at h
        exact ans_iv (r := errI 2) h
      · have hb' : ¬ (d < 1 ∨ 4611686018427387904 < d ∨ n < -4611686018427387904 ∨ 4611686018427387904 < n) := fun hh => by
          have := hcond.2 hh
          rw [hb] at this; cases this
        rw [if_neg hb'] at h
        rw [IntWalk.u64_in d (by omega)]
        refine ⟨⟨⟨by omega, by omega⟩, by omega, by omega⟩, ⟨⟨by omega, by omega⟩, by omega, by omega⟩, by decide,
          x * n, [y * n], ⟨⟨rfl, rfl, fun k hk => match k, hk with | 0, _ => leXL_self _ | 1, _ => leXL_self _⟩, by simp, ?_, by omega, by omega⟩, by decide, by decide, ans_iv h⟩
        intro p hp
        simp only [List.mem_cons, List.not_mem_nil, or_false] at hp
        rcases hp with rfl | rfl <;> exact big_mul (by omega) (by omega)
  · exact h.1.elim
end Go.Proofs.YtngccjllkgpjmaaGreat

/- Intervals, walked: powers, roots, discs of the program. -/
/- Intervals, walked: powers, roots, discs of the program. -/
set_option linter.all false
namespace Go.Proofs.YtngccjllkgpjmaaGreat
open Go Go.Vx
set_option maxRecDepth 100000
set_option maxHeartbeats 4000000

def v61 : VF := { ntmps := 34, res := [.tmp 4, .tmp 5], body :=
 (.seq (.region [u1 4 .mov [.cn (.int .u64 0)],
 u1 5 .mov [.cn (.bool false)]])
 (.seq (.region [u1 6 .mov [.cn (.int .u64 1)]])
 (.seq (.seq (.region [u1 9 .mov [.tm 0],
 u1 10 (.cmp .lss) [.tm 9, .cn (.int .u64 2)],
 u1 11 .mov [.tm 10],
 u2 12 11 true .mov [.tm 1],
 u2 13 11 true (.cmp .gtr) [.tm 12, .cn (.int .i64 0)],
 u1 14 .and [.tm 11, .tm 13]])
 (.cond (.tm 14) (.seq (.region [u1 15 .mov [.tm 0],
 u1 4 .mov [.tm 15],
 u1 5 .mov [.cn (.bool true)]])
 .ret)
  .skip))
 (.seq (.seq (.region [u1 16 .mov [.tm 1],
 u1 17 .mov [.cn (.int .i64 0)]])
 (.block 0 (.loop (.seq (.region [u1 18 (.cmp .lss) [.tm 17, .tm 16]])
 (.seq (.cond (.tm 18) .skip
  (.exit 0))
 (.seq (.block 1 (.seq (.region [u1 20 .mov [.tm 6],
 u1 21 .mov [.tm 0],
 u1 22 (.call 84) [.tm 20, .tm 21],
 u1 19 .mov [.tm 22],
 u1 23 (.ext 0) [.tm 19],
 u1 24 (.ext 1) [.tm 19],
 u1 7 .mov [.tm 23],
 u1 8 .mov [.tm 24]])
 (.seq (.seq (.region [u1 25 .mov [.tm 7],
 u1 26 (.cmp .neq) [.tm 25, .cn (.int .u64 0)],
 u1 27 .mov [.tm 26],
 u2 28 27 false .mov [.tm 8],
 u2 29 27 false (.cmp .gtr) [.tm 28, .cn (.int .u64 4611686018427387904)],
 u1 30 .or [.tm 27, .tm 29]])
 (.cond (.tm 30) (.seq (.region [u1 4 .mov [.cn (.int .u64 0)],
 u1 5 .mov [.cn (.bool false)]])
 .ret)
  .skip))
 (.region [u1 31 .mov [.tm 8],
 u1 6 .mov [.tm 31]]))))
 (.region [u1 32 (.ari .add) [.tm 17, .cn (.int .i64 1)],
 u1 17 .mov [.tm 32]])))))))
 (.seq (.region [u1 33 .mov [.tm 6],
 u1 4 .mov [.tm 33],
 u1 5 .mov [.cn (.bool true)]])
 .ret))))) }
theorem v61_is : vfunc Tryz.prog Tryz.f61 = some v61 := by kernel_rfl
def v60 : VF := { ntmps := 45, res := [.tmp 4], body :=
 (.seq (.region [u1 4 .mov [.cn (.int .u64 0)]])
 (.seq (.region [u1 10 .mov [.tm 0],
 u1 11 (.ari .add) [.tm 10, .cn (.int .u64 1)],
 u1 5 .mov [.cn (.int .u64 0)],
 u1 6 .mov [.tm 11]])
 (.seq (.seq (.region [u1 12 .mov [.tm 1],
 u1 13 (.cmp .gtr) [.tm 12, .cn (.int .i64 1)]])
 (.cond (.tm 13) (.region [u1 14 .mov [.tm 6],
 u1 15 .mov [.tm 1],
 u1 16 .quo [.cn (.int .i64 62), .tm 15],
 u1 17 (.ari .add) [.tm 16, .cn (.int .i64 1)],
 u1 18 .shl [.cn (.int .u64 1), .tm 17],
 u1 19 .min [.tm 14, .tm 18],
 u1 6 .mov [.tm 19]])
  .skip))
 (.seq (.block 0 (.loop (.seq (.seq (.region [u1 20 .mov [.tm 6],
 u1 21 .mov [.tm 5],
 u1 22 (.ari .sub) [.tm 20, .tm 21],
 u1 23 (.cmp .gtr) [.tm 22, .cn (.int .u64 1)]])
 (.cond (.tm 23) .skip
  (.exit 0)))
 (.block 1 (.seq (.region [u1 24 .mov [.tm 5],
 u1 25 .mov [.tm 6],
 u1 26 .mov [.tm 5],
 u1 27 (.ari .sub) [.tm 25, .tm 26],
 u1 28 .quo [.tm 27, .cn (.int .u64 2)],
 u1 29 (.ari .add) [.tm 24, .tm 28],
 u1 7 .mov [.tm 29]])
 (.seq (.region [u1 31 .mov [.tm 7],
 u1 32 .mov [.tm 1],
 u1 33 (.call 61) [.tm 31, .tm 32],
 u1 30 .mov [.tm 33],
 u1 34 (.ext 0) [.tm 30],
 u1 35 (.ext 1) [.tm 30],
 u1 8 .mov [.tm 34],
 u1 9 .mov [.tm 35]])
 (.seq (.region [u1 36 .mov [.tm 9],
 u1 37 .mov [.tm 36],
 u2 38 37 true .mov [.tm 8],
 u2 39 37 true .mov [.tm 0],
 u2 40 37 true (.cmp .leq) [.tm 38, .tm 39],
 u1 41 .and [.tm 37, .tm 40]])
 (.cond (.tm 41) (.region [u1 42 .mov [.tm 7],
 u1 5 .mov [.tm 42]])
  (.region [u1 43 .mov [.tm 7],
 u1 6 .mov [.tm 43]])))))))))
 (.seq (.region [u1 44 .mov [.tm 5],
 u1 4 .mov [.tm 44]])
 .ret))))) }
theorem v60_is : vfunc Tryz.prog Tryz.f60 = some v60 := by kernel_rfl
def v36 : VF := { ntmps := 58, res := [.cell 4 true 2, .tmp 5], body :=
 (.seq (.region [u1 2 .box [.tm 0],
 u1 4 (.alloc [(.int .i64 0), (.int .i64 0)]) [],
 u1 5 .mov [.cn (.int .i64 0)]])
 (.seq (.region [u1 10 (.load true 2) [.tm 2],
 u1 11 (.buildSlice 2 1 [(.int .i64 0), (.int .i64 0)] [(0, 2)]) [.tm 10],
 u1 12 (.call 56) [.tm 11],
 u1 6 .mov [.tm 12]])
 (.seq (.block 0 (.seq (.region [u1 14 .mov [.tm 6],
 u1 15 (.cmp .neq) [.tm 14, .cn (.int .i64 0)],
 u1 13 .mov [.tm 15]])
 (.cond (.tm 13) (.seq (.region [u1 16 (.build [(.int .i64 0), (.int .i64 0)] []) [],
 u1 17 .mov [.tm 6],
 u0 (.store 2) [.tm 4, .tm 16],
 u1 5 .mov [.tm 17]])
 .ret)
  (.seq (.region [u1 19 .mov [.tm 1],
 u1 20 (.cmp .lss) [.tm 19, .cn (.int .i64 1)],
 u1 21 .mov [.tm 20],
 u2 22 21 false .mov [.tm 1],
 u2 23 21 false (.cmp .gtr) [.tm 22, .cn (.int .i64 62)],
 u1 24 .or [.tm 21, .tm 23],
 u1 18 .mov [.tm 24]])
 (.cond (.tm 18) (.seq (.region [u1 25 (.build [(.int .i64 0), (.int .i64 0)] []) [],
 u0 (.store 2) [.tm 4, .tm 25],
 u1 5 .mov [.cn (.int .i64 2)]])
 .ret)
  (.seq (.region [u1 27 (.fieldAddr 0) [.tm 2],
 u1 28 (.load false 1) [.tm 27],
 u1 29 (.cmp .lss) [.tm 28, .cn (.int .i64 0)],
 u1 26 .mov [.tm 29]])
 (.cond (.tm 26) (.seq (.region [u1 30 (.build [(.int .i64 0), (.int .i64 0)] []) [],
 u0 (.store 2) [.tm 4, .tm 30],
 u1 5 .mov [.cn (.int .i64 9)]])
 .ret)
  .skip)))))))
 (.seq (.region [u1 31 (.fieldAddr 1) [.tm 2],
 u1 32 (.load false 1) [.tm 31],
 u1 33 (.conv .u64) [.tm 32],
 u1 34 .mov [.tm 1],
 u1 35 (.call 60) [.tm 33, .tm 34],
 u1 7 .mov [.tm 35]])
 (.seq (.seq (.region [u1 37 .mov [.tm 7],
 u1 38 .mov [.tm 1],
 u1 39 (.call 61) [.tm 37, .tm 38],
 u1 36 .mov [.tm 39],
 u1 40 (.ext 0) [.tm 36],
 u1 41 (.ext 1) [.tm 36],
 u1 8 .mov [.tm 40],
 u1 9 .mov [.tm 41]])
 (.seq (.region [u1 42 .mov [.tm 8],
 u1 43 (.fieldAddr 1) [.tm 2],
 u1 44 (.load false 1) [.tm 43],
 u1 45 (.conv .u64) [.tm 44],
 u1 46 (.cmp .lss) [.tm 42, .tm 45]])
 (.cond (.tm 46) (.region [u1 47 .mov [.tm 7],
 u1 48 (.ari .add) [.tm 47, .cn (.int .u64 1)],
 u1 7 .mov [.tm 48]])
  .skip)))
 (.seq (.region [u1 49 (.fieldAddr 0) [.tm 2],
 u1 50 (.load false 1) [.tm 49],
 u1 51 (.conv .u64) [.tm 50],
 u1 52 .mov [.tm 1],
 u1 53 (.call 60) [.tm 51, .tm 52],
 u1 54 (.conv .i64) [.tm 53],
 u1 55 .mov [.tm 7],
 u1 56 (.conv .i64) [.tm 55],
 u1 57 (.build [(.int .i64 0), (.int .i64 0)] [(0, 1), (1, 1)]) [.tm 54, .tm 56],
 u0 (.store 2) [.tm 4, .tm 57],
 u1 5 .mov [.cn (.int .i64 0)]])
 .ret)))))) }
theorem v36_is : vfunc Tryz.prog Tryz.f36 = some v36 := by kernel_rfl
def v78 : VF := { ntmps := 77, res := [.tmp 4, .tmp 5], body :=
 (.seq (.region [u1 4 .mov [.cn (.int .i64 0)],
 u1 5 .mov [.cn (.bool false)]])
 (.seq (.region [u1 6 .mov [.cn (.int .u64 3141592653589793238)]])
 (.seq (.seq (.region [u1 18 .mov [.tm 1]])
 (.cond (.tm 18) (.region [u1 6 .mov [.cn (.int .u64 3141592653589793239)]])
  .skip))
 (.seq (.region [u1 20 .mov [.tm 0],
 u1 21 .mov [.tm 0],
 u1 22 (.call 84) [.tm 20, .tm 21],
 u1 19 .mov [.tm 22],
 u1 23 (.ext 0) [.tm 19],
 u1 24 (.ext 1) [.tm 19],
 u1 7 .mov [.tm 23],
 u1 8 .mov [.tm 24]])
 (.seq (.seq (.region [u1 25 .mov [.tm 7],
 u1 26 (.cmp .geq) [.tm 25, .cn (.int .u64 4096)]])
 (.cond (.tm 26) (.seq (.region [u1 4 .mov [.cn (.int .i64 0)],
 u1 5 .mov [.cn (.bool false)]])
 .ret)
  .skip))
 (.seq (.region [u1 28 .mov [.tm 7],
 u1 29 .mov [.tm 6],
 u1 30 (.call 84) [.tm 28, .tm 29],
 u1 27 .mov [.tm 30],
 u1 31 (.ext 0) [.tm 27],
 u1 32 (.ext 1) [.tm 27],
 u1 9 .mov [.tm 31],
 u1 10 .mov [.tm 32]])
 (.seq (.region [u1 34 .mov [.tm 8],
 u1 35 .mov [.tm 6],
 u1 36 (.call 84) [.tm 34, .tm 35],
 u1 33 .mov [.tm 36],
 u1 37 (.ext 0) [.tm 33],
 u1 38 (.ext 1) [.tm 33],
 u1 11 .mov [.tm 37],
 u1 12 .mov [.tm 38]])
 (.seq (.region [u1 40 .mov [.tm 10],
 u1 41 .mov [.tm 11],
 u1 42 .addc [.tm 40, .tm 41, .cn (.int .u64 0)],
 u1 39 .mov [.tm 42],
 u1 43 (.ext 0) [.tm 39],
 u1 44 (.ext 1) [.tm 39],
 u1 10 .mov [.tm 43],
 u1 13 .mov [.tm 44]])
 (.seq (.region [u1 45 .mov [.tm 9],
 u1 46 .mov [.tm 13],
 u1 47 (.ari .add) [.tm 45, .tm 46],
 u1 9 .mov [.tm 47]])
 (.seq (.region [u1 49 .mov [.tm 9],
 u1 50 .mov [.tm 10],
 u1 51 (.call 103) [.tm 49, .tm 50, .cn (.int .u64 4000000000000000000)],
 u1 48 .mov [.tm 51],
 u1 52 (.ext 0) [.tm 48],
 u1 53 (.ext 1) [.tm 48],
 u1 14 .mov [.tm 52],
 u1 15 .mov [.tm 53]])
 (.seq (.region [u1 55 .mov [.tm 15],
 u1 56 .mov [.tm 12],
 u1 57 (.call 103) [.tm 55, .tm 56, .cn (.int .u64 4000000000000000000)],
 u1 54 .mov [.tm 57],
 u1 58 (.ext 0) [.tm 54],
 u1 59 (.ext 1) [.tm 54],
 u1 16 .mov [.tm 58],
 u1 17 .mov [.tm 59]])
 (.seq (.seq (.region [u1 60 .mov [.tm 14],
 u1 61 (.cmp .neq) [.tm 60, .cn (.int .u64 0)],
 u1 62 .mov [.tm 61],
 u2 63 62 false .mov [.tm 16],
 u2 64 62 false (.cmp .gtr) [.tm 63, .cn (.int .u64 4611686018427387904)],
 u1 65 .or [.tm 62, .tm 64]])
 (.cond (.tm 65) (.seq (.region [u1 4 .mov [.cn (.int .i64 0)],
 u1 5 .mov [.cn (.bool false)]])
 .ret)
  .skip))
 (.seq (.seq (.region [u1 66 .mov [.tm 1],
 u1 67 .mov [.tm 66],
 u2 68 67 true .mov [.tm 17],
 u2 69 67 true (.cmp .neq) [.tm 68, .cn (.int .u64 0)],
 u1 70 .and [.tm 67, .tm 69]])
 (.cond (.tm 70) (.region [u1 71 .mov [.tm 16],
 u1 72 (.ari .add) [.tm 71, .cn (.int .u64 1)],
 u1 16 .mov [.tm 72]])
  .skip))
 (.seq (.region [u1 73 .mov [.tm 16],
 u1 74 (.conv .i64) [.tm 73],
 u1 75 .mov [.tm 16],
 u1 76 (.cmp .leq) [.tm 75, .cn (.int .u64 4611686018427387904)],
 u1 4 .mov [.tm 74],
 u1 5 .mov [.tm 76]])
 .ret)))))))))))))) }
theorem v78_is : vfunc Tryz.prog Tryz.f78 = some v78 := by kernel_rfl
def v53 : VF := { ntmps := 46, res := [.cell 2 true 2, .tmp 3], body :=
 (.seq (.region [u1 1 .box [.tm 0],
 u1 2 (.alloc [(.int .i64 0), (.int .i64 0)]) [],
 u1 3 .mov [.cn (.int .i64 0)]])
 (.seq (.region [u1 9 (.load true 2) [.tm 1],
 u1 10 (.buildSlice 2 1 [(.int .i64 0), (.int .i64 0)] [(0, 2)]) [.tm 9],
 u1 11 (.call 56) [.tm 10],
 u1 4 .mov [.tm 11]])
 (.seq (.block 0 (.seq (.region [u1 13 .mov [.tm 4],
 u1 14 (.cmp .neq) [.tm 13, .cn (.int .i64 0)],
 u1 12 .mov [.tm 14]])
 (.cond (.tm 12) (.seq (.region [u1 15 (.build [(.int .i64 0), (.int .i64 0)] []) [],
 u1 16 .mov [.tm 4],
 u0 (.store 2) [.tm 2, .tm 15],
 u1 3 .mov [.tm 16]])
 .ret)
  (.seq (.region [u1 18 (.fieldAddr 0) [.tm 1],
 u1 19 (.load false 1) [.tm 18],
 u1 20 (.cmp .lss) [.tm 19, .cn (.int .i64 0)],
 u1 17 .mov [.tm 20]])
 (.cond (.tm 17) (.seq (.region [u1 21 (.build [(.int .i64 0), (.int .i64 0)] []) [],
 u0 (.store 2) [.tm 2, .tm 21],
 u1 3 .mov [.cn (.int .i64 9)]])
 .ret)
  .skip)))))
 (.seq (.region [u1 23 (.fieldAddr 0) [.tm 1],
 u1 24 (.load false 1) [.tm 23],
 u1 25 (.conv .u64) [.tm 24],
 u1 26 (.call 78) [.tm 25, .cn (.bool false)],
 u1 22 .mov [.tm 26],
 u1 27 (.ext 0) [.tm 22],
 u1 28 (.ext 1) [.tm 22],
 u1 5 .mov [.tm 27],
 u1 6 .mov [.tm 28]])
 (.seq (.region [u1 30 (.fieldAddr 1) [.tm 1],
 u1 31 (.load false 1) [.tm 30],
 u1 32 (.conv .u64) [.tm 31],
 u1 33 (.call 78) [.tm 32, .cn (.bool true)],
 u1 29 .mov [.tm 33],
 u1 34 (.ext 0) [.tm 29],
 u1 35 (.ext 1) [.tm 29],
 u1 7 .mov [.tm 34],
 u1 8 .mov [.tm 35]])
 (.seq (.seq (.region [u1 36 .mov [.tm 6],
 u1 37 .not [.tm 36],
 u1 38 .mov [.tm 37],
 u2 39 38 false .mov [.tm 8],
 u2 40 38 false .not [.tm 39],
 u1 41 .or [.tm 38, .tm 40]])
 (.cond (.tm 41) (.seq (.region [u1 42 (.build [(.int .i64 0), (.int .i64 0)] []) [],
 u0 (.store 2) [.tm 2, .tm 42],
 u1 3 .mov [.cn (.int .i64 7)]])
 .ret)
  .skip))
 (.seq (.region [u1 43 .mov [.tm 5],
 u1 44 .mov [.tm 7],
 u1 45 (.build [(.int .i64 0), (.int .i64 0)] [(0, 1), (1, 1)]) [.tm 43, .tm 44],
 u0 (.store 2) [.tm 2, .tm 45],
 u1 3 .mov [.cn (.int .i64 0)]])
 .ret))))))) }
theorem v53_is : vfunc Tryz.prog Tryz.f53 = some v53 := by kernel_rfl


def powP (n k : Nat) : Nat × Bool := if n ^ k ≤ 4611686018427387904 then (n ^ k, true) else (0, false)
def powpC : Ctr := { alias := false, of := fun l => match l with
  | [.int .u64 n, .int .i64 k] => .pre ((0 ≤ n ∧ n ≤ 18446744073709551615) ∧ 0 ≤ k ∧ k ≤ 1000) (.fin (.tup [.int .u64 (powP n.toNat k.toNat).1, .bool (powP n.toNat k.toNat).2]) [])
  | _ => noC }
def rootpC : Ctr := { alias := false, of := fun l => match l with
  | [.int .u64 n, .int .i64 k] => .pre ((0 ≤ n ∧ n ≤ 4611686018427387904) ∧ 1 ≤ k ∧ k ≤ 62) (.fin (.int .u64 (rootN n.toNat k.toNat)) [])
  | _ => noC }
def rootC : Ctr := { alias := false, of := fun a => match a with
  | [.agg [.int .i64 x, .int .i64 y], .int .i64 k] => .fin (.tup [.agg (enc2 (rootF (x, y) k).1), .int .i64 (rootF (x, y) k).2]) []
  | _ => noC }
def discpC : Ctr := { alias := false, of := fun l => match l with
  | [.int .u64 n, .bool up] => .pre (0 ≤ n ∧ n ≤ 4611686018427387904) (.all Int fun v => .imp ((discN up n).2 = true → v = (discN up n).1) (.fin (.tup [.int .i64 v, .bool (discN up n).2]) []))
  | _ => noC }
def discC := ivoC discF

def P5 : Env := { ct := fun n => match n with | 84 => some mul64C | 103 => some div64C | _ => none, fn := fun _ => none, meth := fun _ _ => none }
theorem P5_ct84 : P5.ct 84 = some mul64C := rfl
theorem P5_ok : EnvOk Tryz.prog P5 := by
  refine ⟨fun f c h => ?_, fun f vf h => ?_, (fun _ _ _ h => by cases h), by kernel_rfl⟩
  · simp only [P5] at h
    split at h
    · cases h; exact ⟨mul64_ok, Tryz.f84, Tryz.func84, by kernel_rfl, by kernel_rfl⟩
    · cases h; exact ⟨div64_ok, Tryz.f103, Tryz.func103, by kernel_rfl, by kernel_rfl⟩
    · cases h
  · cases h


theorem ans_ib {k : SV → List HO → Prop} {al : Bool} {hp : List HO} {κ : IntKind} {x : Int} {b : Bool} (h : k (.tup [.int κ x, .bool b]) []) : answers al k (.tup [.int κ x, .bool b]) hp :=
  ans_le (show k _ [] from h) (le_self (.tup [.int κ x, .bool b]) ⟨trivial, trivial, trivial⟩) (fun _ => by simp [freshS, freshL])

theorem powp_ok : powpC.ok Tryz.prog 61 := by
  refine contract Tryz.func61 v61_is P5_ok 300 powpC fun args k h => ⟨args, ?_⟩
  simp only [powpC] at h
  split at h
  · rename_i n e
    obtain ⟨⟨⟨h0, h1⟩, h2, h3⟩, h⟩ := h
    obtain ⟨n, rfl⟩ := Int.eq_ofNat_of_zero_le h0
    obtain ⟨e, rfl⟩ := Int.eq_ofNat_of_zero_le h2
    refine ⟨by simp [leL, le], ?_⟩
    dsimp only [v61, r_end, r_end1, r_nil, r_op, r_opg, r_runOp, r_op0, r_yld0, r_yld1, r_y, r_rbeg, r_rend, r_rend1, r_rfrm, r_rfrm1, r_range, r_rangeK, r_rangeE, r_draw, r_drawT, r_tleaf, r_tops, r_tbr, s_chkF, s_chkT, r_dnil, r_dop, r_dopg, r_dplq, r_dplh, r_dq, r_dq0, r_dcl1, r_dcl0, r_dct1, r_dct0, r_dgd, r_dgq1, r_dgq0, r_dctG, r_op1, r_eff, r_eff0, r_call, r_call0, r_inl, r_g, r_gq, r_gc, r_effg, r_effg0, r_callg, r_callg0, r_fin, r_pre, r_imp, r_all, r_ex, r_fing, r_preg, r_exg, r_inBlock, r_inLoop, r_frame, r_frame1, r_skip, r_stuck, r_region, r_seq, r_cond, r_cond1, r_block, r_exit, r_exit1, r_exit2, r_ret, r_loop, s_args0, s_args1, s_xt, s_xc, u0, u1, u2, w0, w1, noOwn, noOwnL, padL, blankL, callee, calleeM, callArgs, eff, ctOf, ctM, ctI, getL, setL, S.put, S.upd, unopts, unopt, unoptsO, unoptsB, lazyO, guardOf, gbool, eMov, eNot, eNeg, eConv, eExt, eLenArr, eLen, eLenStr, eEqb, eEqv, allEq, eNil, negIf, eBool2, eCmp, eAri, ari, eBit, eDiv, eSh, eMinMax, foldMin, foldMax, kEq, pure1, cmpB, VO.quiet, resVals, resVal, tupled, popRet, popTo, cond, Option.bind, Option.map, eNew, eBox, asCells, lenH, snocH, eFieldAddr, eField, eLoad, cellsAt, getH, setH, dropL, takeL, mkAgg, lenL, lenS, shift, shiftL, shiftH, viewN, viewL, view, andT, junks, List.append_nil, Nat.beq, eIdxAddr, eIdxArr, idxN_0, idxN_1, idxN_2, idxN_3, eIndex, eStore, storeAt, spliceL, ones, one, eSlice, eSliceArr, bounds, subLo_z, addLo_z, subLo_one, addLo_one, eMake, eAppend, readS, repL, buildCells, chunk, purgeL, purgeLL, purgeH, purge, refs, refsL, List.cons_append, List.nil_append, wrOps, wrAl, wrDops, wrC, junkAt, putAll, putHs, headOf, headK, keepG, List.append_eq, headX, VO.isAppend, chkG, chkA, napP, napB, there, wrDtr, chkP, apartP, apartB, blk, strip, runAl, AL.ho, yld, putPs, lenN, findR, notRound, jumpK, jumpPT, jcode, List.map_cons, List.map_nil, ite_self, reduceIte]
    simp only [true_and, and_true, imp_self, implies_true, decide_eq_true_eq, decide_eq_false_iff_not, Nat.reduceAdd, Nat.reduceLeDiff, Bool.not_not, reduceCtorEq, false_imp_iff, Bool.not_eq_true', Bool.not_eq_false', Bool.false_eq_true, and_self, forall_const, ne_eq, not_false_eq_true, Nat.reduceEqDiff]
    have h : k (.tup [.int .u64 (powP n e).1, .bool (powP n e).2]) [] := h
    refine ⟨fun hc => ?_, fun hc => ?_⟩
    · rw [Bool.and_eq_true, decide_eq_true_eq, decide_eq_true_eq] at hc
      have : n ^ e = n := by
        rcases (by omega : n = 0 ∨ n = 1) with rfl | rfl
        · exact Nat.zero_pow (by omega)
        · exact Nat.one_pow _
      rw [powP, this, if_pos (by omega)] at h
      exact ans_ib h
    · rw [Bool.and_eq_false_iff, decide_eq_false_iff_not, decide_eq_false_iff_not] at hc
      refine Loop.keep [0, 15] Nat (fun i => [(6, .int .u64 ((n ^ i : Nat) : Int)), (17, .int .i64 i)]) (fun _ => []) [] (fun i => i ≤ e ∧ n ^ i ≤ 4611686018427387904) (fun i => e - i) ?_ ?_
      · refine ⟨0, ⟨Nat.zero_le _, by simp⟩, ?_⟩
        dsimp only [r_end, r_end1, r_nil, r_op, r_opg, r_runOp, r_op0, r_yld0, r_yld1, r_y, r_rbeg, r_rend, r_rend1, r_rfrm, r_rfrm1, r_range, r_rangeK, r_rangeE, r_draw, r_drawT, r_tleaf, r_tops, r_tbr, s_chkF, s_chkT, r_dnil, r_dop, r_dopg, r_dplq, r_dplh, r_dq, r_dq0, r_dcl1, r_dcl0, r_dct1, r_dct0, r_dgd, r_dgq1, r_dgq0, r_dctG, r_op1, r_eff, r_eff0, r_call, r_call0, r_inl, r_g, r_gq, r_gc, r_effg, r_effg0, r_callg, r_callg0, r_fin, r_pre, r_imp, r_all, r_ex, r_fing, r_preg, r_exg, r_inBlock, r_inLoop, r_frame, r_frame1, r_skip, r_stuck, r_region, r_seq, r_cond, r_cond1, r_block, r_exit, r_exit1, r_exit2, r_ret, r_loop, s_args0, s_args1, s_xt, s_xc, u0, u1, u2, w0, w1, noOwn, noOwnL, padL, blankL, callee, calleeM, callArgs, eff, ctOf, ctM, ctI, getL, setL, S.put, S.upd, unopts, unopt, unoptsO, unoptsB, lazyO, guardOf, gbool, eMov, eNot, eNeg, eConv, eExt, eLenArr, eLen, eLenStr, eEqb, eEqv, allEq, eNil, negIf, eBool2, eCmp, eAri, ari, eBit, eDiv, eSh, eMinMax, foldMin, foldMax, kEq, pure1, cmpB, VO.quiet, resVals, resVal, tupled, popRet, popTo, cond, Option.bind, Option.map, eNew, eBox, asCells, lenH, snocH, eFieldAddr, eField, eLoad, cellsAt, getH, setH, dropL, takeL, mkAgg, lenL, lenS, shift, shiftL, shiftH, viewN, viewL, view, andT, junks, List.append_nil, Nat.beq, eIdxAddr, eIdxArr, idxN_0, idxN_1, idxN_2, idxN_3, eIndex, eStore, storeAt, spliceL, ones, one, eSlice, eSliceArr, bounds, subLo_z, addLo_z, subLo_one, addLo_one, eMake, eAppend, readS, repL, buildCells, chunk, purgeL, purgeLL, purgeH, purge, refs, refsL, List.cons_append, List.nil_append, wrOps, wrAl, wrDops, wrC, junkAt, putAll, putHs, headOf, headK, keepG, List.append_eq, headX, VO.isAppend, chkG, chkA, napP, napB, there, wrDtr, chkP, apartP, apartB, blk, strip, runAl, AL.ho, yld, putPs, lenN, findR, notRound, jumpK, jumpPT, jcode, List.map_cons, List.map_nil, ite_self, reduceIte]
        simp only [leS_mk, leL_cons, leL_nil, le_junk, le_int, le_bool, le_nil, leLL_nil, leLL_cons, leH_cons, leH_nil, leH1_box, leH1_own, leH1_gone, le_vs, le_agg, le_tup, le_ptr, le_own, le_xp, le_fn, le_opt, le_val, le_elem, le_nil_own, le_nil_vs, leH_ghost, leL_chunk, leXL_id, bnd_int, bnd_bool, bnd_val, bnd_nil, bnd_junk, bnd_vs, bnd_xp, bnd_agg, bnd_tup, bnd_ptr, bnd_own, bnd_elem, bnd_fn, bnd_iface, bnd_opt, bndL_nil, bndL_cons, lenH_cons, lenH_nil, imp_self, implies_true, true_and, and_true] <;> simp
      · rintro i ⟨hi, hp⟩
        dsimp only [P5_ct84, mul64C, r_end, r_end1, r_nil, r_op, r_opg, r_runOp, r_op0, r_yld0, r_yld1, r_y, r_rbeg, r_rend, r_rend1, r_rfrm, r_rfrm1, r_range, r_rangeK, r_rangeE, r_draw, r_drawT, r_tleaf, r_tops, r_tbr, s_chkF, s_chkT, r_dnil, r_dop, r_dopg, r_dplq, r_dplh, r_dq, r_dq0, r_dcl1, r_dcl0, r_dct1, r_dct0, r_dgd, r_dgq1, r_dgq0, r_dctG, r_op1, r_eff, r_eff0, r_call, r_call0, r_inl, r_g, r_gq, r_gc, r_effg, r_effg0, r_callg, r_callg0, r_fin, r_pre, r_imp, r_all, r_ex, r_fing, r_preg, r_exg, r_inBlock, r_inLoop, r_frame, r_frame1, r_skip, r_stuck, r_region, r_seq, r_cond, r_cond1, r_block, r_exit, r_exit1, r_exit2, r_ret, r_loop, s_args0, s_args1, s_xt, s_xc, u0, u1, u2, w0, w1, noOwn, noOwnL, padL, blankL, callee, calleeM, callArgs, eff, ctOf, ctM, ctI, getL, setL, S.put, S.upd, unopts, unopt, unoptsO, unoptsB, lazyO, guardOf, gbool, eMov, eNot, eNeg, eConv, eExt, eLenArr, eLen, eLenStr, eEqb, eEqv, allEq, eNil, negIf, eBool2, eCmp, eAri, ari, eBit, eDiv, eSh, eMinMax, foldMin, foldMax, kEq, pure1, cmpB, VO.quiet, resVals, resVal, tupled, popRet, popTo, cond, Option.bind, Option.map, eNew, eBox, asCells, lenH, snocH, eFieldAddr, eField, eLoad, cellsAt, getH, setH, dropL, takeL, mkAgg, lenL, lenS, shift, shiftL, shiftH, viewN, viewL, view, andT, junks, List.append_nil, Nat.beq, eIdxAddr, eIdxArr, idxN_0, idxN_1, idxN_2, idxN_3, eIndex, eStore, storeAt, spliceL, ones, one, eSlice, eSliceArr, bounds, subLo_z, addLo_z, subLo_one, addLo_one, eMake, eAppend, readS, repL, buildCells, chunk, purgeL, purgeLL, purgeH, purge, refs, refsL, List.cons_append, List.nil_append, wrOps, wrAl, wrDops, wrC, junkAt, putAll, putHs, headOf, headK, keepG, List.append_eq, headX, VO.isAppend, chkG, chkA, napP, napB, there, wrDtr, chkP, apartP, apartB, blk, strip, runAl, AL.ho, yld, putPs, lenN, findR, notRound, jumpK, jumpPT, jcode, List.map_cons, List.map_nil, ite_self, reduceIte]
        simp only [true_and, and_true, imp_self, implies_true, decide_eq_true_eq, decide_eq_false_iff_not, Nat.reduceAdd, Nat.reduceLeDiff, Bool.not_not, reduceCtorEq, false_imp_iff, Bool.not_eq_true', Bool.not_eq_false', Bool.false_eq_true, and_self, forall_const, ne_eq, not_false_eq_true, Nat.reduceEqDiff]
        have e0 : ((n ^ i : Nat) : Int) * (n : Int) = ((n ^ (i + 1) : Nat) : Int) := by rw [Nat.pow_succ]; exact (Int.natCast_mul _ _).symm
        rw [e0]
        refine ⟨fun hlt => ⟨⟨⟨by omega, by omega⟩, by omega, by omega⟩, by decide, by decide, fun hb => ?_, fun hb => ⟨i + 1, ⟨by omega, ?_⟩, by omega, ?_⟩⟩, fun hge => ?_⟩
        · have hbig : 4611686018427387904 < n ^ (i + 1) := by
            rw [Bool.or_eq_true, Bool.not_eq_true', decide_eq_false_iff_not, decide_eq_true_eq] at hb
            generalize n ^ (i + 1) = t at *
            omega
          have hle : n ^ (i + 1) ≤ n ^ e := Nat.pow_le_pow_right (by omega) (by omega)
          rw [powP, if_neg (by omega)] at h
          exact ans_ib h
        · rw [Bool.or_eq_false_iff, Bool.not_eq_false', decide_eq_true_eq, decide_eq_false_iff_not] at hb
          generalize n ^ (i + 1) = t at *
          omega
        · have hm : ((n ^ (i + 1) : Nat) : Int) % 18446744073709551616 = ((n ^ (i + 1) : Nat) : Int) := by
            rw [Bool.or_eq_false_iff, Bool.not_eq_false', decide_eq_true_eq, decide_eq_false_iff_not] at hb
            generalize n ^ (i + 1) = t at *
            omega
          rw [hm, w_succ (n := e) (by omega) (by omega)]
          simp only [leS_mk, leL_cons, leL_nil, le_junk, le_int, le_bool, le_nil, leLL_nil, leLL_cons, leH_cons, leH_nil, leH1_box, leH1_own, leH1_gone, le_vs, le_agg, le_tup, le_ptr, le_own, le_xp, le_fn, le_opt, le_val, le_elem, le_nil_own, le_nil_vs, leH_ghost, leL_chunk, leXL_id, bnd_int, bnd_bool, bnd_val, bnd_nil, bnd_junk, bnd_vs, bnd_xp, bnd_agg, bnd_tup, bnd_ptr, bnd_own, bnd_elem, bnd_fn, bnd_iface, bnd_opt, bndL_nil, bndL_cons, lenH_cons, lenH_nil, imp_self, implies_true, true_and, and_true] <;> simp
        · obtain rfl : i = e := by omega
          rw [powP, if_pos hp] at h
          exact ans_ib h
  · exact h.1.elim
def P6 : Env := { ct := fun n => match n with | 84 => some mul64C | 103 => some div64C | 61 => some powpC | 85 => some sizC | 56 => some ivlC | _ => none, fn := fun _ => none, meth := fun _ _ => none }
theorem P6_ct84 : P6.ct 84 = some mul64C := rfl
theorem P6_ct103 : P6.ct 103 = some div64C := rfl
theorem P6_ct61 : P6.ct 61 = some powpC := rfl
theorem P6_ok : EnvOk Tryz.prog P6 := by
  refine ⟨fun f c h => ?_, fun f vf h => ?_, (fun _ _ _ h => by cases h), by kernel_rfl⟩
  · simp only [P6] at h
    split at h
    · cases h; exact ⟨mul64_ok, Tryz.f84, Tryz.func84, by kernel_rfl, by kernel_rfl⟩
    · cases h; exact ⟨div64_ok, Tryz.f103, Tryz.func103, by kernel_rfl, by kernel_rfl⟩
    · cases h; exact ⟨powp_ok, Tryz.f61, Tryz.func61, by kernel_rfl, by kernel_rfl⟩
    · cases h; exact ⟨siz_ok, Tryz.f85, Tryz.func85, by kernel_rfl, by kernel_rfl⟩
    · cases h; exact ⟨ivl_ok, Tryz.f56, Tryz.func56, by kernel_rfl, by kernel_rfl⟩
    · cases h
  · cases h


theorem rootp_ok : rootpC.ok Tryz.prog 60 := by
  refine contract Tryz.func60 v60_is P6_ok 300 rootpC fun args k h => ⟨args, ?_⟩
  simp only [rootpC] at h
  split at h
  · rename_i n e
    obtain ⟨⟨⟨h0, h1⟩, h2, h3⟩, h⟩ := h
    obtain ⟨n, rfl⟩ := Int.eq_ofNat_of_zero_le h0
    obtain ⟨e, rfl⟩ := Int.eq_ofNat_of_zero_le (by omega : 0 ≤ e)
    refine ⟨by simp [leL, le], ?_⟩
    dsimp only [v60, r_end, r_end1, r_nil, r_op, r_opg, r_runOp, r_op0, r_yld0, r_yld1, r_y, r_rbeg, r_rend, r_rend1, r_rfrm, r_rfrm1, r_range, r_rangeK, r_rangeE, r_draw, r_drawT, r_tleaf, r_tops, r_tbr, s_chkF, s_chkT, r_dnil, r_dop, r_dopg, r_dplq, r_dplh, r_dq, r_dq0, r_dcl1, r_dcl0, r_dct1, r_dct0, r_dgd, r_dgq1, r_dgq0, r_dctG, r_op1, r_eff, r_eff0, r_call, r_call0, r_inl, r_g, r_gq, r_gc, r_effg, r_effg0, r_callg, r_callg0, r_fin, r_pre, r_imp, r_all, r_ex, r_fing, r_preg, r_exg, r_inBlock, r_inLoop, r_frame, r_frame1, r_skip, r_stuck, r_region, r_seq, r_cond, r_cond1, r_block, r_exit, r_exit1, r_exit2, r_ret, r_loop, s_args0, s_args1, s_xt, s_xc, u0, u1, u2, w0, w1, noOwn, noOwnL, padL, blankL, callee, calleeM, callArgs, eff, ctOf, ctM, ctI, getL, setL, S.put, S.upd, unopts, unopt, unoptsO, unoptsB, lazyO, guardOf, gbool, eMov, eNot, eNeg, eConv, eExt, eLenArr, eLen, eLenStr, eEqb, eEqv, allEq, eNil, negIf, eBool2, eCmp, eAri, ari, eBit, eDiv, eSh, eMinMax, foldMin, foldMax, kEq, pure1, cmpB, VO.quiet, resVals, resVal, tupled, popRet, popTo, cond, Option.bind, Option.map, eNew, eBox, asCells, lenH, snocH, eFieldAddr, eField, eLoad, cellsAt, getH, setH, dropL, takeL, mkAgg, lenL, lenS, shift, shiftL, shiftH, viewN, viewL, view, andT, junks, List.append_nil, Nat.beq, eIdxAddr, eIdxArr, idxN_0, idxN_1, idxN_2, idxN_3, eIndex, eStore, storeAt, spliceL, ones, one, eSlice, eSliceArr, bounds, subLo_z, addLo_z, subLo_one, addLo_one, eMake, eAppend, readS, repL, buildCells, chunk, purgeL, purgeLL, purgeH, purge, refs, refsL, List.cons_append, List.nil_append, wrOps, wrAl, wrDops, wrC, junkAt, putAll, putHs, headOf, headK, keepG, List.append_eq, headX, VO.isAppend, chkG, chkA, napP, napB, there, wrDtr, chkP, apartP, apartB, blk, strip, runAl, AL.ho, yld, putPs, lenN, findR, notRound, jumpK, jumpPT, jcode, List.map_cons, List.map_nil, ite_self, reduceIte]
    simp only [true_and, and_true, imp_self, implies_true, decide_eq_true_eq, decide_eq_false_iff_not, Nat.reduceAdd, Nat.reduceLeDiff, Bool.not_not, reduceCtorEq, false_imp_iff, Bool.not_eq_true', Bool.not_eq_false', Bool.false_eq_true, and_self, forall_const, ne_eq, not_false_eq_true, Nat.reduceEqDiff]
    have h : k (.int .u64 (rootN n e)) [] := h
    have e1 : IntKind.i64.wrap (IntKind.i64.wrap (Int.tdiv 62 (e : Int)) + 1) = ((62 / e + 1 : Nat) : Int) := by
      have : Int.tdiv 62 (e : Int) = ((62 / e : Nat) : Int) := IntWalk.up_tdiv (x := 62) rfl rfl
      have hle : 62 / e ≤ 62 := Nat.div_le_self _ _
      generalize 62 / e = t at *
      rw [this, IntWalk.i64_in (t : Int) (by omega), IntWalk.i64_in _ (by omega)]; omega
    have e2 : IntKind.u64.wrap ((n : Int) + 1) = ((n + 1 : Nat) : Int) := by rw [IntWalk.u64_in _ (by omega)]; omega
    refine ⟨fun hgt => ⟨by omega, ?_⟩, fun hle => ?_⟩
    · have hq : 62 / e ≤ 31 := by
        have : 62 / e ≤ 62 / 2 := Nat.div_le_div_left (by omega) (by decide)
        omega
      have e3 : IntKind.u64.wrap (1 * 2 ^ min (62 / e + 1) 64) = ((2 ^ (62 / e + 1) : Nat) : Int) := by
        have h1 := shl_nat (x := 1) (s := 62 / e + 1) (by omega) (by
          rw [Nat.one_mul]
          exact Nat.lt_of_le_of_lt (Nat.pow_le_pow_right (by decide) (by omega : 62 / e + 1 ≤ 32)) (by decide))
        rw [Nat.one_mul] at h1
        exact h1
      rw [e1, e2]
      simp only [Int.toNat_natCast]
      rw [show IntKind.u64.bits = 64 from rfl, e3]
      refine ⟨Int.natCast_nonneg _, ?_⟩
      have hhigh : n < (min (n + 1) (2 ^ (62 / e + 1))) ^ e := by
        rcases Nat.le_total (n + 1) (2 ^ (62 / e + 1)) with hm | hm
        · rw [Nat.min_eq_left hm]
          exact Nat.lt_of_lt_of_le (Nat.lt_succ_self n) (Nat.le_trans (Nat.le_of_eq (Nat.pow_one _).symm) (Nat.pow_le_pow_right (by omega) (by omega)))
        · rw [Nat.min_eq_right hm, ← Nat.pow_mul]
          have h63 : 63 ≤ (62 / e + 1) * e := by
            have := Nat.div_add_mod 62 e
            have := Nat.mod_lt 62 (by omega : e > 0)
            rw [Nat.succ_mul, Nat.mul_comm]; omega
          exact Nat.lt_of_lt_of_le (by omega : n < 2 ^ 63) (Nat.pow_le_pow_right (by decide) h63)
      have hm : min ((n + 1 : Nat) : Int) ((2 ^ (62 / e + 1) : Nat) : Int) = ((min (n + 1) (2 ^ (62 / e + 1)) : Nat) : Int) := by omega
      rw [hm]
      have hmb : min (n + 1) (2 ^ (62 / e + 1)) ≤ n + 1 := Nat.min_le_left _ _
      generalize min (n + 1) (2 ^ (62 / e + 1)) = H at hhigh hmb ⊢
      refine Loop.keep [0, 0] (Nat × Nat) (fun x => [(5, .int .u64 x.1), (6, .int .u64 x.2)]) (fun _ => []) [] (fun x => x.1 ^ e ≤ n ∧ n < x.2 ^ e ∧ x.1 < x.2 ∧ x.2 ≤ n + 1) (fun x => x.2 - x.1) ?_ ?_
      · refine ⟨(0, H), ⟨by rw [Nat.zero_pow (by omega)]; exact Nat.zero_le _, hhigh, ?_, by omega⟩, ?_⟩
        · refine Nat.pos_of_ne_zero fun h0 => ?_
          have h0 : H = 0 := h0
          rw [h0, Nat.zero_pow (by omega)] at hhigh
          exact absurd hhigh (Nat.not_lt_zero _)
        · dsimp only [r_end, r_end1, r_nil, r_op, r_opg, r_runOp, r_op0, r_yld0, r_yld1, r_y, r_rbeg, r_rend, r_rend1, r_rfrm, r_rfrm1, r_range, r_rangeK, r_rangeE, r_draw, r_drawT, r_tleaf, r_tops, r_tbr, s_chkF, s_chkT, r_dnil, r_dop, r_dopg, r_dplq, r_dplh, r_dq, r_dq0, r_dcl1, r_dcl0, r_dct1, r_dct0, r_dgd, r_dgq1, r_dgq0, r_dctG, r_op1, r_eff, r_eff0, r_call, r_call0, r_inl, r_g, r_gq, r_gc, r_effg, r_effg0, r_callg, r_callg0, r_fin, r_pre, r_imp, r_all, r_ex, r_fing, r_preg, r_exg, r_inBlock, r_inLoop, r_frame, r_frame1, r_skip, r_stuck, r_region, r_seq, r_cond, r_cond1, r_block, r_exit, r_exit1, r_exit2, r_ret, r_loop, s_args0, s_args1, s_xt, s_xc, u0, u1, u2, w0, w1, noOwn, noOwnL, padL, blankL, callee, calleeM, callArgs, eff, ctOf, ctM, ctI, getL, setL, S.put, S.upd, unopts, unopt, unoptsO, unoptsB, lazyO, guardOf, gbool, eMov, eNot, eNeg, eConv, eExt, eLenArr, eLen, eLenStr, eEqb, eEqv, allEq, eNil, negIf, eBool2, eCmp, eAri, ari, eBit, eDiv, eSh, eMinMax, foldMin, foldMax, kEq, pure1, cmpB, VO.quiet, resVals, resVal, tupled, popRet, popTo, cond, Option.bind, Option.map, eNew, eBox, asCells, lenH, snocH, eFieldAddr, eField, eLoad, cellsAt, getH, setH, dropL, takeL, mkAgg, lenL, lenS, shift, shiftL, shiftH, viewN, viewL, view, andT, junks, List.append_nil, Nat.beq, eIdxAddr, eIdxArr, idxN_0, idxN_1, idxN_2, idxN_3, eIndex, eStore, storeAt, spliceL, ones, one, eSlice, eSliceArr, bounds, subLo_z, addLo_z, subLo_one, addLo_one, eMake, eAppend, readS, repL, buildCells, chunk, purgeL, purgeLL, purgeH, purge, refs, refsL, List.cons_append, List.nil_append, wrOps, wrAl, wrDops, wrC, junkAt, putAll, putHs, headOf, headK, keepG, List.append_eq, headX, VO.isAppend, chkG, chkA, napP, napB, there, wrDtr, chkP, apartP, apartB, blk, strip, runAl, AL.ho, yld, putPs, lenN, findR, notRound, jumpK, jumpPT, jcode, List.map_cons, List.map_nil, ite_self, reduceIte]
          simp only [leS_mk, leL_cons, leL_nil, le_junk, le_int, le_bool, le_nil, leLL_nil, leLL_cons, leH_cons, leH_nil, leH1_box, leH1_own, leH1_gone, le_vs, le_agg, le_tup, le_ptr, le_own, le_xp, le_fn, le_opt, le_val, le_elem, le_nil_own, le_nil_vs, leH_ghost, leL_chunk, leXL_id, bnd_int, bnd_bool, bnd_val, bnd_nil, bnd_junk, bnd_vs, bnd_xp, bnd_agg, bnd_tup, bnd_ptr, bnd_own, bnd_elem, bnd_fn, bnd_iface, bnd_opt, bndL_nil, bndL_cons, lenH_cons, lenH_nil, imp_self, implies_true, true_and, and_true] <;> simp
      · rintro ⟨l, u⟩ ⟨hl, hu, hlu, hun⟩
        dsimp only at hl hu hlu hun
        dsimp only [P6_ct61, powpC, r_end, r_end1, r_nil, r_op, r_opg, r_runOp, r_op0, r_yld0, r_yld1, r_y, r_rbeg, r_rend, r_rend1, r_rfrm, r_rfrm1, r_range, r_rangeK, r_rangeE, r_draw, r_drawT, r_tleaf, r_tops, r_tbr, s_chkF, s_chkT, r_dnil, r_dop, r_dopg, r_dplq, r_dplh, r_dq, r_dq0, r_dcl1, r_dcl0, r_dct1, r_dct0, r_dgd, r_dgq1, r_dgq0, r_dctG, r_op1, r_eff, r_eff0, r_call, r_call0, r_inl, r_g, r_gq, r_gc, r_effg, r_effg0, r_callg, r_callg0, r_fin, r_pre, r_imp, r_all, r_ex, r_fing, r_preg, r_exg, r_inBlock, r_inLoop, r_frame, r_frame1, r_skip, r_stuck, r_region, r_seq, r_cond, r_cond1, r_block, r_exit, r_exit1, r_exit2, r_ret, r_loop, s_args0, s_args1, s_xt, s_xc, u0, u1, u2, w0, w1, noOwn, noOwnL, padL, blankL, callee, calleeM, callArgs, eff, ctOf, ctM, ctI, getL, setL, S.put, S.upd, unopts, unopt, unoptsO, unoptsB, lazyO, guardOf, gbool, eMov, eNot, eNeg, eConv, eExt, eLenArr, eLen, eLenStr, eEqb, eEqv, allEq, eNil, negIf, eBool2, eCmp, eAri, ari, eBit, eDiv, eSh, eMinMax, foldMin, foldMax, kEq, pure1, cmpB, VO.quiet, resVals, resVal, tupled, popRet, popTo, cond, Option.bind, Option.map, eNew, eBox, asCells, lenH, snocH, eFieldAddr, eField, eLoad, cellsAt, getH, setH, dropL, takeL, mkAgg, lenL, lenS, shift, shiftL, shiftH, viewN, viewL, view, andT, junks, List.append_nil, Nat.beq, eIdxAddr, eIdxArr, idxN_0, idxN_1, idxN_2, idxN_3, eIndex, eStore, storeAt, spliceL, ones, one, eSlice, eSliceArr, bounds, subLo_z, addLo_z, subLo_one, addLo_one, eMake, eAppend, readS, repL, buildCells, chunk, purgeL, purgeLL, purgeH, purge, refs, refsL, List.cons_append, List.nil_append, wrOps, wrAl, wrDops, wrC, junkAt, putAll, putHs, headOf, headK, keepG, List.append_eq, headX, VO.isAppend, chkG, chkA, napP, napB, there, wrDtr, chkP, apartP, apartB, blk, strip, runAl, AL.ho, yld, putPs, lenN, findR, notRound, jumpK, jumpPT, jcode, List.map_cons, List.map_nil, ite_self, reduceIte]
        simp only [true_and, and_true, imp_self, implies_true, decide_eq_true_eq, decide_eq_false_iff_not, Nat.reduceAdd, Nat.reduceLeDiff, Bool.not_not, reduceCtorEq, false_imp_iff, Bool.not_eq_true', Bool.not_eq_false', Bool.false_eq_true, and_self, forall_const, ne_eq, not_false_eq_true, Nat.reduceEqDiff]
        have w1 : IntKind.u64.wrap ((u : Int) - (l : Int)) = ((u - l : Nat) : Int) := u_sub (by omega) (by omega)
        have w2 : IntKind.u64.wrap (((u - l : Nat) : Int).tdiv 2) = (((u - l) / 2 : Nat) : Int) := by
          have : ((u - l : Nat) : Int).tdiv 2 = (((u - l) / 2 : Nat) : Int) := IntWalk.up_tdiv (y := 2) rfl rfl
          rw [this]; exact u_nat (by omega)
        have w3 : IntKind.u64.wrap ((l : Int) + (((u - l) / 2 : Nat) : Int)) = ((l + (u - l) / 2 : Nat) : Int) := u_add (by omega)
        rw [w1, w2, w3]
        simp only [Int.toNat_natCast]
        refine ⟨fun hgt => ⟨by decide, ⟨⟨by omega, by omega⟩, by omega, by omega⟩, by decide, by decide, ?_⟩, fun hle => ?_⟩
        · generalize hM : l + (u - l) / 2 = M
          have hM1 : l < M := by omega
          have hM2 : M < u := by omega
          have hcond : ((powP M e).2 && decide (((powP M e).1 : Int) ≤ (n : Int))) = true ↔ M ^ e ≤ n := by
            unfold powP
            split
            · simp only [Bool.true_and, decide_eq_true_eq]
              generalize M ^ e = t
              omega
            · simp only [Bool.false_and, Bool.false_eq_true, false_iff]
              generalize M ^ e = t at *
              omega
          refine ⟨fun hb => ⟨(M, u), ⟨hcond.1 hb, hu, hM2, hun⟩, by simp only; omega, ?_⟩, fun hb => ⟨(l, M), ⟨hl, ?_, hM1, by simp only; omega⟩, by simp only; omega, ?_⟩⟩
          · simp only [leS_mk, leL_cons, leL_nil, le_junk, le_int, le_bool, le_nil, leLL_nil, leLL_cons, leH_cons, leH_nil, leH1_box, leH1_own, leH1_gone, le_vs, le_agg, le_tup, le_ptr, le_own, le_xp, le_fn, le_opt, le_val, le_elem, le_nil_own, le_nil_vs, leH_ghost, leL_chunk, leXL_id, bnd_int, bnd_bool, bnd_val, bnd_nil, bnd_junk, bnd_vs, bnd_xp, bnd_agg, bnd_tup, bnd_ptr, bnd_own, bnd_elem, bnd_fn, bnd_iface, bnd_opt, bndL_nil, bndL_cons, lenH_cons, lenH_nil, imp_self, implies_true, true_and, and_true]
          · refine Nat.lt_of_not_le fun hh => ?_
            have := hcond.2 hh
            rw [hb] at this; cases this
          · simp only [leS_mk, leL_cons, leL_nil, le_junk, le_int, le_bool, le_nil, leLL_nil, leLL_cons, leH_cons, leH_nil, leH1_box, leH1_own, leH1_gone, le_vs, le_agg, le_tup, le_ptr, le_own, le_xp, le_fn, le_opt, le_val, le_elem, le_nil_own, le_nil_vs, leH_ghost, leL_chunk, leXL_id, bnd_int, bnd_bool, bnd_val, bnd_nil, bnd_junk, bnd_vs, bnd_xp, bnd_agg, bnd_tup, bnd_ptr, bnd_own, bnd_elem, bnd_fn, bnd_iface, bnd_opt, bndL_nil, bndL_cons, lenH_cons, lenH_nil, imp_self, implies_true, true_and, and_true]
        · obtain rfl : u = l + 1 := by omega
          rw [rootN_eq (by omega) hl hu] at h
          exact ans_int h
    · have hhigh : n < (n + 1) ^ e := Nat.lt_of_lt_of_le (Nat.lt_succ_self n) (Nat.le_trans (Nat.le_of_eq (Nat.pow_one _).symm) (Nat.pow_le_pow_right (by omega) (by omega)))
      rw [e2]
      have hmb : n + 1 ≤ n + 1 := Nat.le_refl _
      generalize hH : n + 1 = H at hhigh ⊢
      rw [hH] at hmb
      refine Loop.keep [0, 0] (Nat × Nat) (fun x => [(5, .int .u64 x.1), (6, .int .u64 x.2)]) (fun _ => []) [] (fun x => x.1 ^ e ≤ n ∧ n < x.2 ^ e ∧ x.1 < x.2 ∧ x.2 ≤ n + 1) (fun x => x.2 - x.1) ?_ ?_
      · refine ⟨(0, H), ⟨by rw [Nat.zero_pow (by omega)]; exact Nat.zero_le _, hhigh, ?_, by omega⟩, ?_⟩
        · refine Nat.pos_of_ne_zero fun h0 => ?_
          have h0 : H = 0 := h0
          rw [h0, Nat.zero_pow (by omega)] at hhigh
          exact absurd hhigh (Nat.not_lt_zero _)
        · dsimp only [r_end, r_end1, r_nil, r_op, r_opg, r_runOp, r_op0, r_yld0, r_yld1, r_y, r_rbeg, r_rend, r_rend1, r_rfrm, r_rfrm1, r_range, r_rangeK, r_rangeE, r_draw, r_drawT, r_tleaf, r_tops, r_tbr, s_chkF, s_chkT, r_dnil, r_dop, r_dopg, r_dplq, r_dplh, r_dq, r_dq0, r_dcl1, r_dcl0, r_dct1, r_dct0, r_dgd, r_dgq1, r_dgq0, r_dctG, r_op1, r_eff, r_eff0, r_call, r_call0, r_inl, r_g, r_gq, r_gc, r_effg, r_effg0, r_callg, r_callg0, r_fin, r_pre, r_imp, r_all, r_ex, r_fing, r_preg, r_exg, r_inBlock, r_inLoop, r_frame, r_frame1, r_skip, r_stuck, r_region, r_seq, r_cond, r_cond1, r_block, r_exit, r_exit1, r_exit2, r_ret, r_loop, s_args0, s_args1, s_xt, s_xc, u0, u1, u2, w0, w1, noOwn, noOwnL, padL, blankL, callee, calleeM, callArgs, eff, ctOf, ctM, ctI, getL, setL, S.put, S.upd, unopts, unopt, unoptsO, unoptsB, lazyO, guardOf, gbool, eMov, eNot, eNeg, eConv, eExt, eLenArr, eLen, eLenStr, eEqb, eEqv, allEq, eNil, negIf, eBool2, eCmp, eAri, ari, eBit, eDiv, eSh, eMinMax, foldMin, foldMax, kEq, pure1, cmpB, VO.quiet, resVals, resVal, tupled, popRet, popTo, cond, Option.bind, Option.map, eNew, eBox, asCells, lenH, snocH, eFieldAddr, eField, eLoad, cellsAt, getH, setH, dropL, takeL, mkAgg, lenL, lenS, shift, shiftL, shiftH, viewN, viewL, view, andT, junks, List.append_nil, Nat.beq, eIdxAddr, eIdxArr, idxN_0, idxN_1, idxN_2, idxN_3, eIndex, eStore, storeAt, spliceL, ones, one, eSlice, eSliceArr, bounds, subLo_z, addLo_z, subLo_one, addLo_one, eMake, eAppend, readS, repL, buildCells, chunk, purgeL, purgeLL, purgeH, purge, refs, refsL, List.cons_append, List.nil_append, wrOps, wrAl, wrDops, wrC, junkAt, putAll, putHs, headOf, headK, keepG, List.append_eq, headX, VO.isAppend, chkG, chkA, napP, napB, there, wrDtr, chkP, apartP, apartB, blk, strip, runAl, AL.ho, yld, putPs, lenN, findR, notRound, jumpK, jumpPT, jcode, List.map_cons, List.map_nil, ite_self, reduceIte]
          simp only [leS_mk, leL_cons, leL_nil, le_junk, le_int, le_bool, le_nil, leLL_nil, leLL_cons, leH_cons, leH_nil, leH1_box, leH1_own, leH1_gone, le_vs, le_agg, le_tup, le_ptr, le_own, le_xp, le_fn, le_opt, le_val, le_elem, le_nil_own, le_nil_vs, leH_ghost, leL_chunk, leXL_id, bnd_int, bnd_bool, bnd_val, bnd_nil, bnd_junk, bnd_vs, bnd_xp, bnd_agg, bnd_tup, bnd_ptr, bnd_own, bnd_elem, bnd_fn, bnd_iface, bnd_opt, bndL_nil, bndL_cons, lenH_cons, lenH_nil, imp_self, implies_true, true_and, and_true] <;> simp
      · rintro ⟨l, u⟩ ⟨hl, hu, hlu, hun⟩
        dsimp only at hl hu hlu hun
        dsimp only [P6_ct61, powpC, r_end, r_end1, r_nil, r_op, r_opg, r_runOp, r_op0, r_yld0, r_yld1, r_y, r_rbeg, r_rend, r_rend1, r_rfrm, r_rfrm1, r_range, r_rangeK, r_rangeE, r_draw, r_drawT, r_tleaf, r_tops, r_tbr, s_chkF, s_chkT, r_dnil, r_dop, r_dopg, r_dplq, r_dplh, r_dq, r_dq0, r_dcl1, r_dcl0, r_dct1, r_dct0, r_dgd, r_dgq1, r_dgq0, r_dctG, r_op1, r_eff, r_eff0, r_call, r_call0, r_inl, r_g, r_gq, r_gc, r_effg, r_effg0, r_callg, r_callg0, r_fin, r_pre, r_imp, r_all, r_ex, r_fing, r_preg, r_exg, r_inBlock, r_inLoop, r_frame, r_frame1, r_skip, r_stuck, r_region, r_seq, r_cond, r_cond1, r_block, r_exit, r_exit1, r_exit2, r_ret, r_loop, s_args0, s_args1, s_xt, s_xc, u0, u1, u2, w0, w1, noOwn, noOwnL, padL, blankL, callee, calleeM, callArgs, eff, ctOf, ctM, ctI, getL, setL, S.put, S.upd, unopts, unopt, unoptsO, unoptsB, lazyO, guardOf, gbool, eMov, eNot, eNeg, eConv, eExt, eLenArr, eLen, eLenStr, eEqb, eEqv, allEq, eNil, negIf, eBool2, eCmp, eAri, ari, eBit, eDiv, eSh, eMinMax, foldMin, foldMax, kEq, pure1, cmpB, VO.quiet, resVals, resVal, tupled, popRet, popTo, cond, Option.bind, Option.map, eNew, eBox, asCells, lenH, snocH, eFieldAddr, eField, eLoad, cellsAt, getH, setH, dropL, takeL, mkAgg, lenL, lenS, shift, shiftL, shiftH, viewN, viewL, view, andT, junks, List.append_nil, Nat.beq, eIdxAddr, eIdxArr, idxN_0, idxN_1, idxN_2, idxN_3, eIndex, eStore, storeAt, spliceL, ones, one, eSlice, eSliceArr, bounds, subLo_z, addLo_z, subLo_one, addLo_one, eMake, eAppend, readS, repL, buildCells, chunk, purgeL, purgeLL, purgeH, purge, refs, refsL, List.cons_append, List.nil_append, wrOps, wrAl, wrDops, wrC, junkAt, putAll, putHs, headOf, headK, keepG, List.append_eq, headX, VO.isAppend, chkG, chkA, napP, napB, there, wrDtr, chkP, apartP, apartB, blk, strip, runAl, AL.ho, yld, putPs, lenN, findR, notRound, jumpK, jumpPT, jcode, List.map_cons, List.map_nil, ite_self, reduceIte]
        simp only [true_and, and_true, imp_self, implies_true, decide_eq_true_eq, decide_eq_false_iff_not, Nat.reduceAdd, Nat.reduceLeDiff, Bool.not_not, reduceCtorEq, false_imp_iff, Bool.not_eq_true', Bool.not_eq_false', Bool.false_eq_true, and_self, forall_const, ne_eq, not_false_eq_true, Nat.reduceEqDiff]
        have w1 : IntKind.u64.wrap ((u : Int) - (l : Int)) = ((u - l : Nat) : Int) := u_sub (by omega) (by omega)
        have w2 : IntKind.u64.wrap (((u - l : Nat) : Int).tdiv 2) = (((u - l) / 2 : Nat) : Int) := by
          have : ((u - l : Nat) : Int).tdiv 2 = (((u - l) / 2 : Nat) : Int) := IntWalk.up_tdiv (y := 2) rfl rfl
          rw [this]; exact u_nat (by omega)
        have w3 : IntKind.u64.wrap ((l : Int) + (((u - l) / 2 : Nat) : Int)) = ((l + (u - l) / 2 : Nat) : Int) := u_add (by omega)
        rw [w1, w2, w3]
        simp only [Int.toNat_natCast]
        refine ⟨fun hgt => ⟨by decide, ⟨⟨by omega, by omega⟩, by omega, by omega⟩, by decide, by decide, ?_⟩, fun hle => ?_⟩
        · generalize hM : l + (u - l) / 2 = M
          have hM1 : l < M := by omega
          have hM2 : M < u := by omega
          have hcond : ((powP M e).2 && decide (((powP M e).1 : Int) ≤ (n : Int))) = true ↔ M ^ e ≤ n := by
            unfold powP
            split
            · simp only [Bool.true_and, decide_eq_true_eq]
              generalize M ^ e = t
              omega
            · simp only [Bool.false_and, Bool.false_eq_true, false_iff]
              generalize M ^ e = t at *
              omega
          refine ⟨fun hb => ⟨(M, u), ⟨hcond.1 hb, hu, hM2, hun⟩, by simp only; omega, ?_⟩, fun hb => ⟨(l, M), ⟨hl, ?_, hM1, by simp only; omega⟩, by simp only; omega, ?_⟩⟩
          · simp only [leS_mk, leL_cons, leL_nil, le_junk, le_int, le_bool, le_nil, leLL_nil, leLL_cons, leH_cons, leH_nil, leH1_box, leH1_own, leH1_gone, le_vs, le_agg, le_tup, le_ptr, le_own, le_xp, le_fn, le_opt, le_val, le_elem, le_nil_own, le_nil_vs, leH_ghost, leL_chunk, leXL_id, bnd_int, bnd_bool, bnd_val, bnd_nil, bnd_junk, bnd_vs, bnd_xp, bnd_agg, bnd_tup, bnd_ptr, bnd_own, bnd_elem, bnd_fn, bnd_iface, bnd_opt, bndL_nil, bndL_cons, lenH_cons, lenH_nil, imp_self, implies_true, true_and, and_true]
          · refine Nat.lt_of_not_le fun hh => ?_
            have := hcond.2 hh
            rw [hb] at this; cases this
          · simp only [leS_mk, leL_cons, leL_nil, le_junk, le_int, le_bool, le_nil, leLL_nil, leLL_cons, leH_cons, leH_nil, leH1_box, leH1_own, leH1_gone, le_vs, le_agg, le_tup, le_ptr, le_own, le_xp, le_fn, le_opt, le_val, le_elem, le_nil_own, le_nil_vs, leH_ghost, leL_chunk, leXL_id, bnd_int, bnd_bool, bnd_val, bnd_nil, bnd_junk, bnd_vs, bnd_xp, bnd_agg, bnd_tup, bnd_ptr, bnd_own, bnd_elem, bnd_fn, bnd_iface, bnd_opt, bndL_nil, bndL_cons, lenH_cons, lenH_nil, imp_self, implies_true, true_and, and_true]
        · obtain rfl : u = l + 1 := by omega
          rw [rootN_eq (by omega) hl hu] at h
          exact ans_int h
  · exact h.1.elim

theorem dig2 {M D T L : Nat} (hD : 0 < D) : T / D * M + (T % D * M + L) / D = (T * M + L) / D ∧ (T % D * M + L) % D = (T * M + L) % D := by
  have := two_digits' (M := M) (y := D) (a := 0) (u1 := T) (u0 := L) hD rfl rfl rfl rfl
  simp only [Nat.zero_mul, Nat.zero_add] at this
  exact this

/-- Three words, divided twice. -/
theorem three_words {M D N p hi lo A B top mid T low : Nat} (hhi : hi = N / M) (hlo : lo = N % M) (hA : A = hi * p) (hB : B = lo * p) (hmid : mid = (A % M + B / M) % M) (htop : top = A / M + (A % M + B / M) / M) (hT : T = top * M + mid) (hlow : low = B % M) (hD : 0 < D) (hM : 0 < M) :
    T / D * M + (T % D * M + low) / D = N * p / D ∧ (T % D * M + low) % D = N * p % D := by
  have e : N * p = T * M + low := by
    have e1 : N = hi * M + lo := by rw [hhi, hlo, Nat.mul_comm]; exact (Nat.div_add_mod N M).symm
    have e2 : N * p = A * M + B := by
      rw [hA, hB]
      conv => lhs; rw [e1]
      rw [Nat.add_mul, Nat.mul_right_comm]
    have a1 := Nat.div_add_mod A M
    have a2 := Nat.div_add_mod B M
    have a3 := Nat.div_add_mod (A % M + B / M) M
    rw [← hmid] at a3
    rw [← hlow] at a2
    rw [e2, hT, htop]
    conv => lhs; rw [← a1, ← a2]
    generalize A / M = q1 at *
    generalize A % M = q2 at *
    generalize B / M = q3 at *
    generalize (q2 + q3) / M = q4 at *
    have : q2 + q3 = M * q4 + mid := a3.symm
    have e5 : (M * q1 + q2) * M + (M * q3 + low) = (q1 * M + (q2 + q3)) * M + low := by grind
    rw [e5, this]
    grind
  rw [e]
  exact dig2 hD

theorem discp_ok : discpC.ok Tryz.prog 78 := by
  refine contract Tryz.func78 v78_is P6_ok 300 discpC fun args k h => ⟨args, ?_⟩
  simp only [discpC] at h
  split at h
  · rename_i n up
    obtain ⟨⟨h0, h1⟩, h⟩ := h
    obtain ⟨n, rfl⟩ := Int.eq_ofNat_of_zero_le h0
    refine ⟨by simp [leL, le], ?_⟩
    dsimp only [v78, P6_ct84, P6_ct103, mul64C, div64C, eAddc, r_end, r_end1, r_nil, r_op, r_opg, r_runOp, r_op0, r_yld0, r_yld1, r_y, r_rbeg, r_rend, r_rend1, r_rfrm, r_rfrm1, r_range, r_rangeK, r_rangeE, r_draw, r_drawT, r_tleaf, r_tops, r_tbr, s_chkF, s_chkT, r_dnil, r_dop, r_dopg, r_dplq, r_dplh, r_dq, r_dq0, r_dcl1, r_dcl0, r_dct1, r_dct0, r_dgd, r_dgq1, r_dgq0, r_dctG, r_op1, r_eff, r_eff0, r_call, r_call0, r_inl, r_g, r_gq, r_gc, r_effg, r_effg0, r_callg, r_callg0, r_fin, r_pre, r_imp, r_all, r_ex, r_fing, r_preg, r_exg, r_inBlock, r_inLoop, r_frame, r_frame1, r_skip, r_stuck, r_region, r_seq, r_cond, r_cond1, r_block, r_exit, r_exit1, r_exit2, r_ret, r_loop, s_args0, s_args1, s_xt, s_xc, u0, u1, u2, w0, w1, noOwn, noOwnL, padL, blankL, callee, calleeM, callArgs, eff, ctOf, ctM, ctI, getL, setL, S.put, S.upd, unopts, unopt, unoptsO, unoptsB, lazyO, guardOf, gbool, eMov, eNot, eNeg, eConv, eExt, eLenArr, eLen, eLenStr, eEqb, eEqv, allEq, eNil, negIf, eBool2, eCmp, eAri, ari, eBit, eDiv, eSh, eMinMax, foldMin, foldMax, kEq, pure1, cmpB, VO.quiet, resVals, resVal, tupled, popRet, popTo, cond, Option.bind, Option.map, eNew, eBox, asCells, lenH, snocH, eFieldAddr, eField, eLoad, cellsAt, getH, setH, dropL, takeL, mkAgg, lenL, lenS, shift, shiftL, shiftH, viewN, viewL, view, andT, junks, List.append_nil, Nat.beq, eIdxAddr, eIdxArr, idxN_0, idxN_1, idxN_2, idxN_3, eIndex, eStore, storeAt, spliceL, ones, one, eSlice, eSliceArr, bounds, subLo_z, addLo_z, subLo_one, addLo_one, eMake, eAppend, readS, repL, buildCells, chunk, purgeL, purgeLL, purgeH, purge, refs, refsL, List.cons_append, List.nil_append, wrOps, wrAl, wrDops, wrC, junkAt, putAll, putHs, headOf, headK, keepG, List.append_eq, headX, VO.isAppend, chkG, chkA, napP, napB, there, wrDtr, chkP, apartP, apartB, blk, strip, runAl, AL.ho, yld, putPs, lenN, findR, notRound, jumpK, jumpPT, jcode, List.map_cons, List.map_nil, ite_self, reduceIte]
    simp only [true_and, and_true, imp_self, implies_true, decide_eq_true_eq, decide_eq_false_iff_not, Nat.reduceAdd, Nat.reduceLeDiff, Bool.not_not, reduceCtorEq, false_imp_iff, Bool.not_eq_true', Bool.not_eq_false', Bool.false_eq_true, and_self, forall_const, ne_eq, not_false_eq_true, Nat.reduceEqDiff]
    refine ⟨fun hu => ?_, fun hu => ?_⟩
    · subst hu
      obtain ⟨p, hp⟩ : ∃ p : Nat, p = 3141592653589793239 := ⟨_, rfl⟩
      have hpi : (3141592653589793239 : Int) = (p : Int) := by omega
      have hD : discN true (n : Int) = rndF true ((n : Int) * n * (p : Int)) 4000000000000000000 := by rw [discN, if_pos rfl, hpi]
      rw [hpi]
      have hdone : ∀ (v : Int) (b : Bool) (hp : List HO), (discN _ (n : Int)).2 = b → (b = true → v = (discN _ (n : Int)).1) → answers discpC.alias k (.tup [.int .i64 v, .bool b]) hp := fun v b hp h1 h2 => by
        have := h v (by rw [h1]; exact h2)
        have this : k (.tup [.int .i64 v, .bool (discN _ (n : Int)).2]) [] := this
        rw [h1] at this
        exact ans_ib this
      rw [hD] at hdone
      have hpb : 3141592653589793238 ≤ p ∧ p ≤ 3141592653589793239 := by omega
      have eN : (n : Int) * n = ((n * n : Nat) : Int) := (Int.natCast_mul _ _).symm
      rw [eN] at hdone ⊢
      have hNb : n * n ≤ 4611686018427387904 * 4611686018427387904 := Nat.mul_le_mul (by omega) (by omega)
      generalize n * n = N at *
      have eNp : (N : Int) * (p : Int) = ((N * p : Nat) : Int) := (Int.natCast_mul _ _).symm
      rw [eNp] at hdone
      have e1 : (N : Int) / 18446744073709551616 = ((N / 18446744073709551616 : Nat) : Int) := by omega
      have e2 : (N : Int) % 18446744073709551616 = ((N % 18446744073709551616 : Nat) : Int) := by omega
      rw [e1, e2]
      obtain ⟨hi, hhi⟩ : ∃ hi, hi = N / 18446744073709551616 := ⟨_, rfl⟩
      obtain ⟨lo, hlo⟩ : ∃ lo, lo = N % 18446744073709551616 := ⟨_, rfl⟩
      obtain ⟨A, hA⟩ : ∃ A, A = hi * p := ⟨_, rfl⟩
      obtain ⟨B, hB⟩ : ∃ B, B = lo * p := ⟨_, rfl⟩
      obtain ⟨V, hV⟩ : ∃ V, V = N * p := ⟨_, rfl⟩
      have hlob : lo < 18446744073709551616 := by omega
      have hhib : hi < 4611686018427387904 := by omega
      have hAb : A ≤ hi * 4611686018427387904 := by rw [hA]; exact Nat.mul_le_mul_left _ (by omega)
      have hBb : B ≤ 18446744073709551616 * 4611686018427387904 := by rw [hB]; exact Nat.mul_le_mul (by omega) (by omega)
      have eA : (hi : Int) * (p : Int) = (A : Int) := by rw [hA]; exact (Int.natCast_mul _ _).symm
      have eB : (lo : Int) * (p : Int) = (B : Int) := by rw [hB]; exact (Int.natCast_mul _ _).symm
      have hbig : 4096 ≤ hi → 4611686018427387904 < V / 4000000000000000000 := fun hh => by
        have h1 : 75557863725914323419136 ≤ N := by omega
        have h2 : 75557863725914323419136 * 3141592653589793238 ≤ N * p := Nat.mul_le_mul h1 (by omega)
        rw [← hV] at h2
        omega
      rw [← hhi, ← hlo, eA, eB]
      rw [← hV] at hdone
      have hrnd := fun up => rnd_abs (up := up) (x := (V : Int)) (d := 4000000000000000000) (by omega)
      have hneg : decide ((V : Int) < 0) = false := decide_eq_false (by omega)
      rw [hneg] at hrnd
      have hVa : ((V : Int)).natAbs = V := by omega
      rw [hVa] at hrnd
      have hdC : ((4000000000000000000 : Nat) : Int) = 4000000000000000000 := rfl
      rw [hdC] at hrnd
      unfold rndF at hdone
      rw [hrnd] at hdone
      have hns : ∀ t : Nat, nsg false t = (t : Int) := fun t => rfl
      rw [hns] at hdone
      refine ⟨⟨by omega, by omega⟩, by decide, by decide, fun hc => hdone _ _ _ ?_ (fun hh => by cases hh), fun hc => ?_⟩
      · have := hbig (by omega)
        unfold rndB
        rw [if_neg (by omega)]
      · obtain ⟨mid, hmid⟩ : ∃ mid, mid = (A % 18446744073709551616 + B / 18446744073709551616) % 18446744073709551616 := ⟨_, rfl⟩
        obtain ⟨top, htop⟩ : ∃ top, top = A / 18446744073709551616 + (A % 18446744073709551616 + B / 18446744073709551616) / 18446744073709551616 := ⟨_, rfl⟩
        obtain ⟨low, hlow⟩ : ∃ low, low = B % 18446744073709551616 := ⟨_, rfl⟩
        obtain ⟨T, hT⟩ : ∃ T, T = top * 18446744073709551616 + mid := ⟨_, rfl⟩
        obtain ⟨hq, hr⟩ := three_words (D := 4000000000000000000) hhi hlo hA hB hmid htop hT hlow (by omega) (by omega)
        rw [← hV] at hq hr
        have htb : top < 4097 := by omega
        have eTop : IntKind.u64.wrap ((A : Int) / 18446744073709551616 + ((A : Int) % 18446744073709551616 + (B : Int) / 18446744073709551616 + 0) / 18446744073709551616) = (top : Int) := by
          rw [IntWalk.u64_in _ (by omega)]; omega
        have eMid : ((A : Int) % 18446744073709551616 + (B : Int) / 18446744073709551616 + 0) % 18446744073709551616 = (mid : Int) := by omega
        have eLow : (B : Int) % 18446744073709551616 = (low : Int) := by omega
        have eT : (top : Int) * 18446744073709551616 + (mid : Int) = (T : Int) := by omega
        obtain ⟨Q1, hQ1⟩ : ∃ Q1, Q1 = T / 4000000000000000000 := ⟨_, rfl⟩
        obtain ⟨R1, hR1⟩ : ∃ R1, R1 = T % 4000000000000000000 := ⟨_, rfl⟩
        have eQ1 : (T : Int) / 4000000000000000000 = (Q1 : Int) := by omega
        have eR1 : (T : Int) % 4000000000000000000 = (R1 : Int) := by omega
        obtain ⟨W, hW⟩ : ∃ W, W = R1 * 18446744073709551616 + low := ⟨_, rfl⟩
        have eW : (R1 : Int) * 18446744073709551616 + (low : Int) = (W : Int) := by omega
        obtain ⟨Q0, hQ0⟩ : ∃ Q0, Q0 = W / 4000000000000000000 := ⟨_, rfl⟩
        obtain ⟨R0, hR0⟩ : ∃ R0, R0 = W % 4000000000000000000 := ⟨_, rfl⟩
        have eQ0 : (W : Int) / 4000000000000000000 = (Q0 : Int) := by omega
        have eR0 : (W : Int) % 4000000000000000000 = (R0 : Int) := by omega
        rw [eTop, eMid, eLow, eT, eQ1, eR1, eW, eQ0, eR0]
        rw [← hQ1, ← hR1, ← hW, ← hQ0] at hq
        rw [← hR1, ← hW, ← hR0] at hr
        rw [← hq, ← hr] at hdone
        have rB : ∀ t : Nat, (rndB (t : Int)).2 = decide ((t : Int) ≤ 4611686018427387904) ∧ (decide ((t : Int) ≤ 4611686018427387904) = true → (t : Int) = (rndB (t : Int)).1) := fun t => by
          unfold rndB
          by_cases h : (t : Int) ≤ 4611686018427387904
          · rw [if_pos (by omega)]; exact ⟨(decide_eq_true h).symm, fun _ => rfl⟩
          · rw [if_neg (by omega)]; exact ⟨(decide_eq_false h).symm, fun hh => absurd (of_decide_eq_true hh) h⟩
        refine ⟨⟨⟨by omega, by omega⟩, by omega, by omega⟩, by decide, by decide, ⟨⟨by omega, by omega⟩, by omega, by omega⟩, by decide, by decide, ⟨by omega, by omega, by decide, by decide⟩, by decide, by decide, ⟨⟨by omega, by omega⟩, by omega, by omega, by decide⟩, by decide, by decide, ⟨⟨by omega, by omega⟩, by omega, by omega, by decide⟩, by decide, by decide, fun hb => hdone _ _ _ ?_ (fun hh => by cases hh), fun hb => ⟨fun hr0 => ?_, fun hr0 => ?_⟩⟩
        · rw [Bool.or_eq_true, Bool.not_eq_true', decide_eq_false_iff_not, decide_eq_true_eq] at hb
          unfold rndB
          rw [if_neg (by omega)]
        · rw [Bool.or_eq_false_iff, Bool.not_eq_false', decide_eq_true_eq, decide_eq_false_iff_not] at hb
          have hR : R0 ≠ 0 := by
            intro hh; subst hh; simp at hr0
          have hbp : bump true false R0 = 1 := by unfold bump; rw [if_pos (by simp [hR])]
          rw [hbp] at hdone
          have hz : Q1 = 0 := by exact_mod_cast hb.1
          have hv : Q1 * 18446744073709551616 + Q0 + 1 = Q0 + 1 := by rw [hz, Nat.zero_mul, Nat.zero_add]
          rw [hv] at hdone
          have e1 : IntKind.u64.wrap ((Q0 : Int) + 1) = ((Q0 + 1 : Nat) : Int) := by rw [IntWalk.u64_in _ (by omega)]; omega
          rw [e1, IntWalk.i64_in _ (by omega)]
          exact hdone _ _ _ (rB _).1 (rB _).2
        · rw [Bool.or_eq_false_iff, Bool.not_eq_false', decide_eq_true_eq, decide_eq_false_iff_not] at hb
          have hbp : bump true false R0 = 0 := by
            unfold bump
            rw [if_neg]
            intro hh
            simp at hh hr0
            exact hh (by omega)
          rw [hbp] at hdone
          have hz : Q1 = 0 := by exact_mod_cast hb.1
          have hv : Q1 * 18446744073709551616 + Q0 + 0 = Q0 := by rw [hz, Nat.zero_mul, Nat.zero_add, Nat.add_zero]
          rw [hv] at hdone
          rw [IntWalk.i64_in _ (by omega)]
          exact hdone _ _ _ (rB _).1 (rB _).2
    · subst hu
      obtain ⟨p, hp⟩ : ∃ p : Nat, p = 3141592653589793238 := ⟨_, rfl⟩
      have hpi : (3141592653589793238 : Int) = (p : Int) := by omega
      have hD : discN false (n : Int) = rndF false ((n : Int) * n * (p : Int)) 4000000000000000000 := by rw [discN, if_neg (by decide), hpi]
      rw [hpi]
      have hdone : ∀ (v : Int) (b : Bool) (hp : List HO), (discN _ (n : Int)).2 = b → (b = true → v = (discN _ (n : Int)).1) → answers discpC.alias k (.tup [.int .i64 v, .bool b]) hp := fun v b hp h1 h2 => by
        have := h v (by rw [h1]; exact h2)
        have this : k (.tup [.int .i64 v, .bool (discN _ (n : Int)).2]) [] := this
        rw [h1] at this
        exact ans_ib this
      rw [hD] at hdone
      have hpb : 3141592653589793238 ≤ p ∧ p ≤ 3141592653589793239 := by omega
      have eN : (n : Int) * n = ((n * n : Nat) : Int) := (Int.natCast_mul _ _).symm
      rw [eN] at hdone ⊢
      have hNb : n * n ≤ 4611686018427387904 * 4611686018427387904 := Nat.mul_le_mul (by omega) (by omega)
      generalize n * n = N at *
      have eNp : (N : Int) * (p : Int) = ((N * p : Nat) : Int) := (Int.natCast_mul _ _).symm
      rw [eNp] at hdone
      have e1 : (N : Int) / 18446744073709551616 = ((N / 18446744073709551616 : Nat) : Int) := by omega
      have e2 : (N : Int) % 18446744073709551616 = ((N % 18446744073709551616 : Nat) : Int) := by omega
      rw [e1, e2]
      obtain ⟨hi, hhi⟩ : ∃ hi, hi = N / 18446744073709551616 := ⟨_, rfl⟩
      obtain ⟨lo, hlo⟩ : ∃ lo, lo = N % 18446744073709551616 := ⟨_, rfl⟩
      obtain ⟨A, hA⟩ : ∃ A, A = hi * p := ⟨_, rfl⟩
      obtain ⟨B, hB⟩ : ∃ B, B = lo * p := ⟨_, rfl⟩
      obtain ⟨V, hV⟩ : ∃ V, V = N * p := ⟨_, rfl⟩
      have hlob : lo < 18446744073709551616 := by omega
      have hhib : hi < 4611686018427387904 := by omega
      have hAb : A ≤ hi * 4611686018427387904 := by rw [hA]; exact Nat.mul_le_mul_left _ (by omega)
      have hBb : B ≤ 18446744073709551616 * 4611686018427387904 := by rw [hB]; exact Nat.mul_le_mul (by omega) (by omega)
      have eA : (hi : Int) * (p : Int) = (A : Int) := by rw [hA]; exact (Int.natCast_mul _ _).symm
      have eB : (lo : Int) * (p : Int) = (B : Int) := by rw [hB]; exact (Int.natCast_mul _ _).symm
      have hbig : 4096 ≤ hi → 4611686018427387904 < V / 4000000000000000000 := fun hh => by
        have h1 : 75557863725914323419136 ≤ N := by omega
        have h2 : 75557863725914323419136 * 3141592653589793238 ≤ N * p := Nat.mul_le_mul h1 (by omega)
        rw [← hV] at h2
        omega
      rw [← hhi, ← hlo, eA, eB]
      rw [← hV] at hdone
      have hrnd := fun up => rnd_abs (up := up) (x := (V : Int)) (d := 4000000000000000000) (by omega)
      have hneg : decide ((V : Int) < 0) = false := decide_eq_false (by omega)
      rw [hneg] at hrnd
      have hVa : ((V : Int)).natAbs = V := by omega
      rw [hVa] at hrnd
      have hdC : ((4000000000000000000 : Nat) : Int) = 4000000000000000000 := rfl
      rw [hdC] at hrnd
      unfold rndF at hdone
      rw [hrnd] at hdone
      have hns : ∀ t : Nat, nsg false t = (t : Int) := fun t => rfl
      rw [hns] at hdone
      refine ⟨⟨by omega, by omega⟩, by decide, by decide, fun hc => hdone _ _ _ ?_ (fun hh => by cases hh), fun hc => ?_⟩
      · have := hbig (by omega)
        unfold rndB
        rw [if_neg (by omega)]
      · obtain ⟨mid, hmid⟩ : ∃ mid, mid = (A % 18446744073709551616 + B / 18446744073709551616) % 18446744073709551616 := ⟨_, rfl⟩
        obtain ⟨top, htop⟩ : ∃ top, top = A / 18446744073709551616 + (A % 18446744073709551616 + B / 18446744073709551616) / 18446744073709551616 := ⟨_, rfl⟩
        obtain ⟨low, hlow⟩ : ∃ low, low = B % 18446744073709551616 := ⟨_, rfl⟩
        obtain ⟨T, hT⟩ : ∃ T, T = top * 18446744073709551616 + mid := ⟨_, rfl⟩
        obtain ⟨hq, hr⟩ := three_words (D := 4000000000000000000) hhi hlo hA hB hmid htop hT hlow (by omega) (by omega)
        rw [← hV] at hq hr
        have htb : top < 4097 := by omega
        have eTop : IntKind.u64.wrap ((A : Int) / 18446744073709551616 + ((A : Int) % 18446744073709551616 + (B : Int) / 18446744073709551616 + 0) / 18446744073709551616) = (top : Int) := by
          rw [IntWalk.u64_in _ (by omega)]; omega
        have eMid : ((A : Int) % 18446744073709551616 + (B : Int) / 18446744073709551616 + 0) % 18446744073709551616 = (mid : Int) := by omega
        have eLow : (B : Int) % 18446744073709551616 = (low : Int) := by omega
        have eT : (top : Int) * 18446744073709551616 + (mid : Int) = (T : Int) := by omega
        obtain ⟨Q1, hQ1⟩ : ∃ Q1, Q1 = T / 4000000000000000000 := ⟨_, rfl⟩
        obtain ⟨R1, hR1⟩ : ∃ R1, R1 = T % 4000000000000000000 := ⟨_, rfl⟩
        have eQ1 : (T : Int) / 4000000000000000000 = (Q1 : Int) := by omega
        have eR1 : (T : Int) % 4000000000000000000 = (R1 : Int) := by omega
        obtain ⟨W, hW⟩ : ∃ W, W = R1 * 18446744073709551616 + low := ⟨_, rfl⟩
        have eW : (R1 : Int) * 18446744073709551616 + (low : Int) = (W : Int) := by omega
        obtain ⟨Q0, hQ0⟩ : ∃ Q0, Q0 = W / 4000000000000000000 := ⟨_, rfl⟩
        obtain ⟨R0, hR0⟩ : ∃ R0, R0 = W % 4000000000000000000 := ⟨_, rfl⟩
        have eQ0 : (W : Int) / 4000000000000000000 = (Q0 : Int) := by omega
        have eR0 : (W : Int) % 4000000000000000000 = (R0 : Int) := by omega
        rw [eTop, eMid, eLow, eT, eQ1, eR1, eW, eQ0, eR0]
        rw [← hQ1, ← hR1, ← hW, ← hQ0] at hq
        rw [← hR1, ← hW, ← hR0] at hr
        rw [← hq, ← hr] at hdone
        have rB : ∀ t : Nat, (rndB (t : Int)).2 = decide ((t : Int) ≤ 4611686018427387904) ∧ (decide ((t : Int) ≤ 4611686018427387904) = true → (t : Int) = (rndB (t : Int)).1) := fun t => by
          unfold rndB
          by_cases h : (t : Int) ≤ 4611686018427387904
          · rw [if_pos (by omega)]; exact ⟨(decide_eq_true h).symm, fun _ => rfl⟩
          · rw [if_neg (by omega)]; exact ⟨(decide_eq_false h).symm, fun hh => absurd (of_decide_eq_true hh) h⟩
        refine ⟨⟨⟨by omega, by omega⟩, by omega, by omega⟩, by decide, by decide, ⟨⟨by omega, by omega⟩, by omega, by omega⟩, by decide, by decide, ⟨by omega, by omega, by decide, by decide⟩, by decide, by decide, ⟨⟨by omega, by omega⟩, by omega, by omega, by decide⟩, by decide, by decide, ⟨⟨by omega, by omega⟩, by omega, by omega, by decide⟩, by decide, by decide, fun hb => hdone _ _ _ ?_ (fun hh => by cases hh), fun hb => ⟨fun hr0 => ?_, fun hr0 => ?_⟩⟩
        · rw [Bool.or_eq_true, Bool.not_eq_true', decide_eq_false_iff_not, decide_eq_true_eq] at hb
          unfold rndB
          rw [if_neg (by omega)]
        · rw [Bool.or_eq_false_iff, Bool.not_eq_false', decide_eq_true_eq, decide_eq_false_iff_not] at hb
          cases hr0
        · rw [Bool.or_eq_false_iff, Bool.not_eq_false', decide_eq_true_eq, decide_eq_false_iff_not] at hb
          have hbp : bump false false R0 = 0 := by
            unfold bump
            rw [if_neg (by simp)]
          rw [hbp] at hdone
          have hz : Q1 = 0 := by exact_mod_cast hb.1
          have hv : Q1 * 18446744073709551616 + Q0 + 0 = Q0 := by rw [hz, Nat.zero_mul, Nat.zero_add, Nat.add_zero]
          rw [hv] at hdone
          rw [IntWalk.i64_in _ (by omega)]
          exact hdone _ _ _ (rB _).1 (rB _).2
  · exact h.1.elim
def P7 : Env := { ct := fun n => match n with | 61 => some powpC | 60 => some rootpC | 78 => some discpC | 56 => some ivlC | _ => none, fn := fun _ => none, meth := fun _ _ => none }
theorem P7_ct61 : P7.ct 61 = some powpC := rfl
theorem P7_ct60 : P7.ct 60 = some rootpC := rfl
theorem P7_ct78 : P7.ct 78 = some discpC := rfl
theorem P7_ct56 : P7.ct 56 = some ivlC := rfl
theorem P7_ok : EnvOk Tryz.prog P7 := by
  refine ⟨fun f c h => ?_, fun f vf h => ?_, (fun _ _ _ h => by cases h), by kernel_rfl⟩
  · simp only [P7] at h
    split at h
    · cases h; exact ⟨powp_ok, Tryz.f61, Tryz.func61, by kernel_rfl, by kernel_rfl⟩
    · cases h; exact ⟨rootp_ok, Tryz.f60, Tryz.func60, by kernel_rfl, by kernel_rfl⟩
    · cases h; exact ⟨discp_ok, Tryz.f78, Tryz.func78, by kernel_rfl, by kernel_rfl⟩
    · cases h; exact ⟨ivl_ok, Tryz.f56, Tryz.func56, by kernel_rfl, by kernel_rfl⟩
    · cases h
  · cases h


theorem rootN_le {n k : Nat} (hk : 0 < k) : rootN n k ≤ n := by
  have h := (rootN_spec (n := n) hk).1
  generalize rootN n k = r at *
  cases r with
  | zero => exact Nat.zero_le _
  | succ r => exact Nat.le_trans (Nat.le_trans (Nat.le_of_eq (Nat.pow_one _).symm) (Nat.pow_le_pow_right (by omega) hk)) h

theorem root_ok : rootC.ok Tryz.prog 36 := by
  refine contract Tryz.func36 v36_is P7_ok 300 rootC fun args k h => ⟨args, ?_⟩
  simp only [rootC] at h
  split at h
  · rename_i x y e
    refine ⟨by simp [leL, le], ?_⟩
    dsimp only [v36, P7_ct56, P7_ct61, P7_ct60, ivlC, powpC, rootpC, enc2, r_end, r_end1, r_nil, r_op, r_opg, r_runOp, r_op0, r_yld0, r_yld1, r_y, r_rbeg, r_rend, r_rend1, r_rfrm, r_rfrm1, r_range, r_rangeK, r_rangeE, r_draw, r_drawT, r_tleaf, r_tops, r_tbr, s_chkF, s_chkT, r_dnil, r_dop, r_dopg, r_dplq, r_dplh, r_dq, r_dq0, r_dcl1, r_dcl0, r_dct1, r_dct0, r_dgd, r_dgq1, r_dgq0, r_dctG, r_op1, r_eff, r_eff0, r_call, r_call0, r_inl, r_g, r_gq, r_gc, r_effg, r_effg0, r_callg, r_callg0, r_fin, r_pre, r_imp, r_all, r_ex, r_fing, r_preg, r_exg, r_inBlock, r_inLoop, r_frame, r_frame1, r_skip, r_stuck, r_region, r_seq, r_cond, r_cond1, r_block, r_exit, r_exit1, r_exit2, r_ret, r_loop, s_args0, s_args1, s_xt, s_xc, u0, u1, u2, w0, w1, noOwn, noOwnL, padL, blankL, callee, calleeM, callArgs, eff, ctOf, ctM, ctI, getL, setL, S.put, S.upd, unopts, unopt, unoptsO, unoptsB, lazyO, guardOf, gbool, eMov, eNot, eNeg, eConv, eExt, eLenArr, eLen, eLenStr, eEqb, eEqv, allEq, eNil, negIf, eBool2, eCmp, eAri, ari, eBit, eDiv, eSh, eMinMax, foldMin, foldMax, kEq, pure1, cmpB, VO.quiet, resVals, resVal, tupled, popRet, popTo, cond, Option.bind, Option.map, eNew, eBox, asCells, lenH, snocH, eFieldAddr, eField, eLoad, cellsAt, getH, setH, dropL, takeL, mkAgg, lenL, lenS, shift, shiftL, shiftH, viewN, viewL, view, andT, junks, List.append_nil, Nat.beq, eIdxAddr, eIdxArr, idxN_0, idxN_1, idxN_2, idxN_3, eIndex, eStore, storeAt, spliceL, ones, one, eSlice, eSliceArr, bounds, subLo_z, addLo_z, subLo_one, addLo_one, eMake, eAppend, readS, repL, buildCells, chunk, purgeL, purgeLL, purgeH, purge, refs, refsL, List.cons_append, List.nil_append, wrOps, wrAl, wrDops, wrC, junkAt, putAll, putHs, headOf, headK, keepG, List.append_eq, headX, VO.isAppend, chkG, chkA, napP, napB, there, wrDtr, chkP, apartP, apartB, blk, strip, runAl, AL.ho, yld, putPs, lenN, findR, notRound, jumpK, jumpPT, jcode, List.map_cons, List.map_nil, ite_self, reduceIte]
    simp only [true_and, and_true, imp_self, implies_true, decide_eq_true_eq, decide_eq_false_iff_not, Nat.reduceAdd, Nat.reduceLeDiff, Bool.not_not, reduceCtorEq, false_imp_iff, Bool.not_eq_true', Bool.not_eq_false', Bool.false_eq_true, and_self, forall_const, ne_eq, not_false_eq_true, Nat.reduceEqDiff]
    have h : k (.tup [.agg (enc2 (rootF (x, y) e).1), .int .i64 (rootF (x, y) e).2]) [] := h
    refine ⟨by decide, [(x, y)], ⟨⟨rfl, rfl, fun k hk => match k, hk with | 0, _ => leXL_self _⟩, by simp⟩, fun hc => ?_, fun hc => ?_⟩
    · rw [rootF, if_pos hc] at h
      exact ans_iv (r := errI (ivE [(x, y)])) h
    · obtain ⟨h1, h2, h3⟩ := ivE1 hc
      dsimp only at h1 h2 h3
      rw [rootF, if_neg (by rw [hc]; simp)] at h
      dsimp only at h
      refine ⟨fun hb => ?_, fun hb => ⟨fun hx => ?_, fun hx => ?_⟩⟩
      · rw [Bool.or_eq_true, decide_eq_true_eq, decide_eq_true_eq] at hb
        rw [if_pos hb] at h
        exact ans_iv (r := errI 2) h
      · rw [Bool.or_eq_false_iff, decide_eq_false_iff_not, decide_eq_false_iff_not] at hb
        rw [if_neg (by omega), if_pos hx] at h
        exact ans_iv (r := errI 9) h
      · rw [Bool.or_eq_false_iff, decide_eq_false_iff_not, decide_eq_false_iff_not] at hb
        rw [if_neg (by omega), if_neg hx] at h
        obtain ⟨x, rfl⟩ := Int.eq_ofNat_of_zero_le (by omega : 0 ≤ x)
        obtain ⟨y, rfl⟩ := Int.eq_ofNat_of_zero_le (by omega : 0 ≤ y)
        obtain ⟨e, rfl⟩ := Int.eq_ofNat_of_zero_le (by omega : 0 ≤ e)
        rw [IntWalk.u64_in (x : Int) (by omega), IntWalk.u64_in (y : Int) (by omega)]
        simp only [Int.toNat_natCast] at h ⊢
        have sx := rootN_spec (n := x) (k := e) (by omega)
        have sy := rootN_spec (n := y) (k := e) (by omega)
        have lx := rootN_le (n := x) (k := e) (by omega)
        have ly := rootN_le (n := y) (k := e) (by omega)
        have hp : powP (rootN y e) e = (rootN y e ^ e, true) := by unfold powP; rw [if_pos (by omega)]
        rw [hp]
        unfold rootUp at h
        generalize rootN x e = rx at *
        generalize rootN y e = ry at *
        rw [IntWalk.i64_in (rx : Int) (by omega), IntWalk.i64_in (ry : Int) (by omega), IntWalk.u64_in ((ry : Int) + 1) (by omega), IntWalk.i64_in ((ry : Int) + 1) (by omega)]
        refine ⟨⟨⟨by omega, by omega⟩, by omega, by omega⟩, ⟨⟨by omega, by omega⟩, by omega, by omega⟩, by decide, by decide, fun hc => ⟨⟨⟨by omega, by omega⟩, by omega, by omega⟩, ?_⟩, fun hc => ⟨⟨⟨by omega, by omega⟩, by omega, by omega⟩, ?_⟩⟩
        · rw [if_pos (by omega)] at h
          exact ans_iv (r := ((_, _), 0)) h
        · rw [if_neg (by omega)] at h
          exact ans_iv (r := ((_, _), 0)) h
  · exact h.1.elim

theorem disc_ok : discC.ok Tryz.prog 53 := by
  refine contract Tryz.func53 v53_is P7_ok 300 discC fun args k h => ⟨args, ?_⟩
  simp only [discC, ivoC] at h
  split at h
  · rename_i x y
    refine ⟨by simp [leL, le], ?_⟩
    dsimp only [v53, P7_ct56, P7_ct78, ivlC, discpC, enc2, r_end, r_end1, r_nil, r_op, r_opg, r_runOp, r_op0, r_yld0, r_yld1, r_y, r_rbeg, r_rend, r_rend1, r_rfrm, r_rfrm1, r_range, r_rangeK, r_rangeE, r_draw, r_drawT, r_tleaf, r_tops, r_tbr, s_chkF, s_chkT, r_dnil, r_dop, r_dopg, r_dplq, r_dplh, r_dq, r_dq0, r_dcl1, r_dcl0, r_dct1, r_dct0, r_dgd, r_dgq1, r_dgq0, r_dctG, r_op1, r_eff, r_eff0, r_call, r_call0, r_inl, r_g, r_gq, r_gc, r_effg, r_effg0, r_callg, r_callg0, r_fin, r_pre, r_imp, r_all, r_ex, r_fing, r_preg, r_exg, r_inBlock, r_inLoop, r_frame, r_frame1, r_skip, r_stuck, r_region, r_seq, r_cond, r_cond1, r_block, r_exit, r_exit1, r_exit2, r_ret, r_loop, s_args0, s_args1, s_xt, s_xc, u0, u1, u2, w0, w1, noOwn, noOwnL, padL, blankL, callee, calleeM, callArgs, eff, ctOf, ctM, ctI, getL, setL, S.put, S.upd, unopts, unopt, unoptsO, unoptsB, lazyO, guardOf, gbool, eMov, eNot, eNeg, eConv, eExt, eLenArr, eLen, eLenStr, eEqb, eEqv, allEq, eNil, negIf, eBool2, eCmp, eAri, ari, eBit, eDiv, eSh, eMinMax, foldMin, foldMax, kEq, pure1, cmpB, VO.quiet, resVals, resVal, tupled, popRet, popTo, cond, Option.bind, Option.map, eNew, eBox, asCells, lenH, snocH, eFieldAddr, eField, eLoad, cellsAt, getH, setH, dropL, takeL, mkAgg, lenL, lenS, shift, shiftL, shiftH, viewN, viewL, view, andT, junks, List.append_nil, Nat.beq, eIdxAddr, eIdxArr, idxN_0, idxN_1, idxN_2, idxN_3, eIndex, eStore, storeAt, spliceL, ones, one, eSlice, eSliceArr, bounds, subLo_z, addLo_z, subLo_one, addLo_one, eMake, eAppend, readS, repL, buildCells, chunk, purgeL, purgeLL, purgeH, purge, refs, refsL, List.cons_append, List.nil_append, wrOps, wrAl, wrDops, wrC, junkAt, putAll, putHs, headOf, headK, keepG, List.append_eq, headX, VO.isAppend, chkG, chkA, napP, napB, there, wrDtr, chkP, apartP, apartB, blk, strip, runAl, AL.ho, yld, putPs, lenN, findR, notRound, jumpK, jumpPT, jcode, List.map_cons, List.map_nil, ite_self, reduceIte]
    simp only [true_and, and_true, imp_self, implies_true, decide_eq_true_eq, decide_eq_false_iff_not, Nat.reduceAdd, Nat.reduceLeDiff, Bool.not_not, reduceCtorEq, false_imp_iff, Bool.not_eq_true', Bool.not_eq_false', Bool.false_eq_true, and_self, forall_const, ne_eq, not_false_eq_true, Nat.reduceEqDiff]
    have h : k (.tup [.agg (enc2 (discF (x, y)).1), .int .i64 (discF (x, y)).2]) [] := h
    refine ⟨by decide, [(x, y)], ⟨⟨rfl, rfl, fun k hk => match k, hk with | 0, _ => leXL_self _⟩, by simp⟩, fun hc => ?_, fun hc => ?_⟩
    · rw [discF, if_pos hc] at h
      exact ans_iv (r := errI (ivE [(x, y)])) h
    · obtain ⟨h1, h2, h3⟩ := ivE1 hc
      dsimp only at h1 h2 h3
      rw [discF, if_neg (by rw [hc]; simp)] at h
      dsimp only at h
      refine ⟨fun hx => ?_, fun hx => ?_⟩
      · rw [if_pos hx] at h
        exact ans_iv (r := errI 9) h
      · rw [if_neg hx] at h
        rw [IntWalk.u64_in x (by omega), IntWalk.u64_in y (by omega)]
        refine ⟨⟨by omega, by omega⟩, fun v hv => ⟨by decide, by decide, ⟨by omega, by omega⟩, fun w hw => ⟨by decide, by decide, fun hb => ?_, fun hb => ?_⟩⟩⟩
        · rw [spanR, if_neg (by rw [← Bool.not_and, Bool.not_eq_true'] at hb; rw [hb]; simp)] at h
          exact ans_iv (r := ((0, 0), 7)) h
        · rw [← Bool.not_and, Bool.not_eq_false', Bool.and_eq_true] at hb
          rw [spanR, if_pos (by rw [hb.1, hb.2]; rfl), ← hv hb.1, ← hw hb.2] at h
          exact ans_iv (r := ((_, _), 0)) h
  · exact h.1.elim
end Go.Proofs.YtngccjllkgpjmaaGreat

/- Chests, walked: toes and pallets, areas, openings, forces. -/
/- Chests, walked: toes and pallets, areas, openings, forces. -/
set_option linter.all false
namespace Go.Proofs.YtngccjllkgpjmaaGreat
open Go Go.Vx
set_option maxRecDepth 100000
set_option maxHeartbeats 4000000

def encP (p : Plt) : List SV := [.int .i64 p.w, .int .i64 p.l, .int .i64 p.t, .int .i64 p.s]
def v29 : VF := { ntmps := 15, res := [.tmp 6], body :=
 (.seq (.region [u1 6 .mov [.cn (.bool false)]])
 (.seq (.region [u1 7 .mov [.tm 0],
 u1 8 .mov [.tm 1],
 u1 9 (.cmp .lss) [.tm 7, .tm 8],
 u1 10 .mov [.tm 9],
 u2 11 10 false .mov [.tm 0],
 u2 12 10 false .mov [.tm 2],
 u2 13 10 false (.cmp .gtr) [.tm 11, .tm 12],
 u1 14 .or [.tm 10, .tm 13],
 u1 6 .mov [.tm 14]])
 .ret)) }
theorem v29_is : vfunc Tryz.prog Tryz.f29 = some v29 := by kernel_rfl
def v33 : VF := { ntmps := 11, res := [.tmp 2], body :=
 (.seq (.region [u1 1 .box [.tm 0],
 u1 2 .mov [.cn (.bool false)]])
 (.seq (.region [u1 3 (.fieldAddr 0) [.tm 1],
 u1 4 (.load false 1) [.tm 3],
 u1 5 (.call 29) [.tm 4, .cn (.int .i64 100), .cn (.int .i64 100000)],
 u1 6 .mov [.tm 5],
 u2 7 6 false (.fieldAddr 1) [.tm 1],
 u2 8 6 false (.load false 1) [.tm 7],
 u2 9 6 false (.call 29) [.tm 8, .cn (.int .i64 100), .cn (.int .i64 1000)],
 u1 10 .or [.tm 6, .tm 9],
 u1 2 .mov [.tm 10]])
 .ret)) }
theorem v33_is : vfunc Tryz.prog Tryz.f33 = some v33 := by kernel_rfl
def v25 : VF := { ntmps := 21, res := [.tmp 2], body :=
 (.seq (.region [u1 1 .box [.tm 0],
 u1 2 .mov [.cn (.bool false)]])
 (.seq (.region [u1 3 (.fieldAddr 0) [.tm 1],
 u1 4 (.load false 1) [.tm 3],
 u1 5 (.call 29) [.tm 4, .cn (.int .i64 1000), .cn (.int .i64 100000)],
 u1 6 .mov [.tm 5],
 u2 7 6 false (.fieldAddr 1) [.tm 1],
 u2 8 6 false (.load false 1) [.tm 7],
 u2 9 6 false (.call 29) [.tm 8, .cn (.int .i64 10000), .cn (.int .i64 1000000)],
 u1 10 .or [.tm 6, .tm 9],
 u1 11 .mov [.tm 10],
 u2 12 11 false (.fieldAddr 2) [.tm 1],
 u2 13 11 false (.load false 1) [.tm 12],
 u2 14 11 false (.call 29) [.tm 13, .cn (.int .i64 500), .cn (.int .i64 30000)],
 u1 15 .or [.tm 11, .tm 14],
 u1 16 .mov [.tm 15],
 u2 17 16 false (.fieldAddr 3) [.tm 1],
 u2 18 16 false (.load false 1) [.tm 17],
 u2 19 16 false (.call 29) [.tm 18, .cn (.int .i64 0), .cn (.int .i64 10000000)],
 u1 20 .or [.tm 16, .tm 19],
 u1 2 .mov [.tm 20]])
 .ret)) }
theorem v25_is : vfunc Tryz.prog Tryz.f25 = some v25 := by kernel_rfl
def v35 : VF := { ntmps := 6, res := [.cell 2 true 2], body :=
 (.seq (.region [u1 2 (.alloc [(.int .i64 0), (.int .i64 0)]) []])
 (.seq (.region [u1 3 .mov [.tm 0],
 u1 4 .mov [.tm 0],
 u1 5 (.build [(.int .i64 0), (.int .i64 0)] [(0, 1), (1, 1)]) [.tm 3, .tm 4],
 u0 (.store 2) [.tm 2, .tm 5]])
 .ret)) }
theorem v35_is : vfunc Tryz.prog Tryz.f35 = some v35 := by kernel_rfl
def v22 : VF := { ntmps := 36, res := [.cell 2 true 2], body :=
 (.seq (.region [u1 1 .box [.tm 0],
 u1 2 (.alloc [(.int .i64 0), (.int .i64 0)]) []])
 (.seq (.region [u1 3 (.alloc [(.int .i64 0), (.int .i64 0)]) []])
 (.seq (.seq (.region [u1 8 (.fieldAddr 0) [.tm 1],
 u1 9 (.load false 1) [.tm 8],
 u1 10 .len [.tm 9],
 u1 11 .mov [.cn (.int .i64 0)]])
 (.block 0 (.loop (.seq (.region [u1 12 (.cmp .lss) [.tm 11, .tm 10]])
 (.seq (.cond (.tm 12) .skip
  (.exit 0))
 (.seq (.block 1 (.seq (.region [u1 13 (.idxAddr 2) [.tm 9, .tm 11],
 u1 14 (.load true 2) [.tm 13],
 u1 5 (.alloc [(.int .i64 0), (.int .i64 0)]) [],
 u0 (.store 2) [.tm 5, .tm 14]])
 (.seq (.region [u1 16 (.fieldAddr 0) [.tm 5],
 u1 17 (.load false 1) [.tm 16],
 u1 18 (.call 35) [.tm 17],
 u1 19 (.call 53) [.tm 18],
 u1 15 .mov [.tm 19],
 u1 20 (.ext 0) [.tm 15],
 u1 21 (.ext 1) [.tm 15],
 u1 6 (.alloc [(.int .i64 0), (.int .i64 0)]) [],
 u0 (.store 2) [.tm 6, .tm 20],
 u1 7 .mov [.tm 21]])
 (.seq (.region [u1 22 (.fieldAddr 0) [.tm 3],
 u1 23 (.load false 1) [.tm 22],
 u1 24 (.fieldAddr 0) [.tm 6],
 u1 25 (.load false 1) [.tm 24],
 u1 26 (.ari .add) [.tm 23, .tm 25],
 u1 27 (.fieldAddr 0) [.tm 3],
 u0 (.store 1) [.tm 27, .tm 26]])
 (.region [u1 28 (.fieldAddr 1) [.tm 3],
 u1 29 (.load false 1) [.tm 28],
 u1 30 (.fieldAddr 1) [.tm 6],
 u1 31 (.load false 1) [.tm 30],
 u1 32 (.ari .add) [.tm 29, .tm 31],
 u1 33 (.fieldAddr 1) [.tm 3],
 u0 (.store 1) [.tm 33, .tm 32]])))))
 (.region [u1 34 (.ari .add) [.tm 11, .cn (.int .i64 1)],
 u1 11 .mov [.tm 34]])))))))
 (.seq (.region [u1 35 (.load true 2) [.tm 3],
 u0 (.store 2) [.tm 2, .tm 35]])
 .ret)))) }
theorem v22_is : vfunc Tryz.prog Tryz.f22 = some v22 := by kernel_rfl
def v21 : VF := { ntmps := 12, res := [.tmp 2], body :=
 (.seq (.region [u1 1 .box [.tm 0],
 u1 2 .mov [.cn (.int .i64 0)]])
 (.seq (.block 0 (.seq (.region [u1 4 (.fieldAddr 0) [.tm 1],
 u1 5 (.load false 1) [.tm 4],
 u1 6 .len [.tm 5],
 u1 7 (.cmp .gtr) [.tm 6, .cn (.int .i64 24)],
 u1 3 .mov [.tm 7]])
 (.cond (.tm 3) (.seq (.region [u1 2 .mov [.cn (.int .i64 3)]])
 .ret)
  (.seq (.region [u1 9 (.fieldAddr 0) [.tm 1],
 u1 10 (.load false 1) [.tm 9],
 u1 11 (.call 52) [.tm 10, .cn (.fn (.func 33) [] [])],
 u1 8 .mov [.tm 11]])
 (.cond (.tm 8) (.seq (.region [u1 2 .mov [.cn (.int .i64 2)]])
 .ret)
  .skip)))))
 (.seq (.region [u1 2 .mov [.cn (.int .i64 0)]])
 .ret))) }
theorem v21_is : vfunc Tryz.prog Tryz.f21 = some v21 := by kernel_rfl
def v50 : VF := { ntmps := 9, res := [.tmp 4], body :=
 (.seq (.region [u1 4 .mov [.cn (.bool false)]])
 (.seq (.region [u1 5 .mov [.tm 0],
 u1 6 .mov [.tm 1],
 u1 7 (.call 76) [.tm 5, .tm 6],
 u1 8 (.cmp .geq) [.tm 7, .cn (.int .i64 0)],
 u1 4 .mov [.tm 8]])
 .ret)) }
theorem v50_is : vfunc Tryz.prog Tryz.f50 = some v50 := by kernel_rfl
def v76 : VF := { ntmps := 19, res := [.tmp 4], body :=
 (.seq (.region [u1 4 .mov [.cn (.int .i64 0)]])
 (.seq (.seq (.region [u1 6 .mov [.tm 0],
 u1 7 .len [.tm 6],
 u1 8 .mov [.cn (.int .i64 0)]])
 (.block 0 (.loop (.seq (.region [u1 9 (.cmp .lss) [.tm 8, .tm 7]])
 (.seq (.cond (.tm 9) .skip
  (.exit 0))
 (.seq (.block 1 (.seq (.region [u1 10 .mov [.tm 8],
 u1 5 .mov [.tm 10]])
 (.seq (.region [u1 11 .mov [.tm 1],
 u1 12 .mov [.tm 0],
 u1 13 .mov [.tm 5],
 u1 14 (.idxAddr 4) [.tm 12, .tm 13],
 u1 15 (.load true 4) [.tm 14],
 u1 16 .callv [.tm 11, .tm 15]])
 (.cond (.tm 16) (.seq (.region [u1 17 .mov [.tm 5],
 u1 4 .mov [.tm 17]])
 .ret)
  .skip))))
 (.region [u1 18 (.ari .add) [.tm 8, .cn (.int .i64 1)],
 u1 8 .mov [.tm 18]])))))))
 (.seq (.region [u1 4 .mov [.cn (.int .i64 (-1))]])
 .ret))) }
theorem v76_is : vfunc Tryz.prog Tryz.f76 = some v76 := by kernel_rfl
def v52 : VF := { ntmps := 9, res := [.tmp 4], body :=
 (.seq (.region [u1 4 .mov [.cn (.bool false)]])
 (.seq (.region [u1 5 .mov [.tm 0],
 u1 6 .mov [.tm 1],
 u1 7 (.call 77) [.tm 5, .tm 6],
 u1 8 (.cmp .geq) [.tm 7, .cn (.int .i64 0)],
 u1 4 .mov [.tm 8]])
 .ret)) }
theorem v52_is : vfunc Tryz.prog Tryz.f52 = some v52 := by kernel_rfl
def v77 : VF := { ntmps := 19, res := [.tmp 4], body :=
 (.seq (.region [u1 4 .mov [.cn (.int .i64 0)]])
 (.seq (.seq (.region [u1 6 .mov [.tm 0],
 u1 7 .len [.tm 6],
 u1 8 .mov [.cn (.int .i64 0)]])
 (.block 0 (.loop (.seq (.region [u1 9 (.cmp .lss) [.tm 8, .tm 7]])
 (.seq (.cond (.tm 9) .skip
  (.exit 0))
 (.seq (.block 1 (.seq (.region [u1 10 .mov [.tm 8],
 u1 5 .mov [.tm 10]])
 (.seq (.region [u1 11 .mov [.tm 1],
 u1 12 .mov [.tm 0],
 u1 13 .mov [.tm 5],
 u1 14 (.idxAddr 2) [.tm 12, .tm 13],
 u1 15 (.load true 2) [.tm 14],
 u1 16 .callv [.tm 11, .tm 15]])
 (.cond (.tm 16) (.seq (.region [u1 17 .mov [.tm 5],
 u1 4 .mov [.tm 17]])
 .ret)
  .skip))))
 (.region [u1 18 (.ari .add) [.tm 8, .cn (.int .i64 1)],
 u1 8 .mov [.tm 18]])))))))
 (.seq (.region [u1 4 .mov [.cn (.int .i64 (-1))]])
 .ret))) }
theorem v77_is : vfunc Tryz.prog Tryz.f77 = some v77 := by kernel_rfl
def v26 : VF := { ntmps := 17, res := [.tmp 2], body :=
 (.seq (.region [u1 1 .box [.tm 0],
 u1 2 .mov [.cn (.int .i64 0)]])
 (.seq (.region [u1 3 (.fieldAddr 0) [.tm 1],
 u1 4 (.load false 1) [.tm 3],
 u1 5 (.fieldAddr 1) [.tm 1],
 u1 6 (.load false 1) [.tm 5],
 u1 7 (.ari .mul) [.tm 4, .tm 6],
 u1 8 (.fieldAddr 2) [.tm 1],
 u1 9 (.load false 1) [.tm 8],
 u1 10 (.fieldAddr 0) [.tm 1],
 u1 11 (.load false 1) [.tm 10],
 u1 12 (.fieldAddr 1) [.tm 1],
 u1 13 (.load false 1) [.tm 12],
 u1 14 (.ari .add) [.tm 11, .tm 13],
 u1 15 (.ari .mul) [.tm 9, .tm 14],
 u1 16 .min [.tm 7, .tm 15],
 u1 2 .mov [.tm 16]])
 .ret)) }
theorem v26_is : vfunc Tryz.prog Tryz.f26 = some v26 := by kernel_rfl
def v30 : VF := { ntmps := 29, res := [.cell 4 true 2], body :=
 (.seq (.region [u1 2 .box [.tm 0],
 u1 4 (.alloc [(.int .i64 0), (.int .i64 0)]) []])
 (.seq (.region [u1 8 (.fieldAddr 0) [.tm 2],
 u1 9 (.load false 1) [.tm 8],
 u1 10 (.fieldAddr 1) [.tm 2],
 u1 11 (.load false 1) [.tm 10],
 u1 12 (.ari .mul) [.tm 9, .tm 11],
 u1 13 (.call 35) [.tm 12],
 u1 14 .mov [.tm 1],
 u1 15 (.call 34) [.tm 13, .tm 14, .cn (.int .i64 1000000)],
 u1 7 .mov [.tm 15],
 u1 16 (.ext 0) [.tm 7],
 u1 17 (.ext 1) [.tm 7],
 u1 5 (.alloc [(.int .i64 0), (.int .i64 0)]) [],
 u0 (.store 2) [.tm 5, .tm 16],
 u1 6 .mov [.tm 17]])
 (.seq (.region [u1 18 (.fieldAddr 0) [.tm 5],
 u1 19 (.load false 1) [.tm 18],
 u1 20 (.fieldAddr 3) [.tm 2],
 u1 21 (.load false 1) [.tm 20],
 u1 22 (.ari .add) [.tm 19, .tm 21],
 u1 23 (.fieldAddr 1) [.tm 5],
 u1 24 (.load false 1) [.tm 23],
 u1 25 (.fieldAddr 3) [.tm 2],
 u1 26 (.load false 1) [.tm 25],
 u1 27 (.ari .add) [.tm 24, .tm 26],
 u1 28 (.build [(.int .i64 0), (.int .i64 0)] [(0, 1), (1, 1)]) [.tm 22, .tm 27],
 u0 (.store 2) [.tm 4, .tm 28]])
 .ret))) }
theorem v30_is : vfunc Tryz.prog Tryz.f30 = some v30 := by kernel_rfl
def v133 : VF := { ntmps := 9, res := [.tmp 4], body :=
 (.seq (.region [u1 2 .box [.tm 0],
 u1 4 .mov [.cn (.int .i64 0)]])
 (.seq (.region [u1 5 (.load true 4) [.tm 2],
 u1 6 .mov [.tm 1],
 u1 7 (.call 30) [.tm 5, .tm 6],
 u1 8 (.field false 1 1) [.tm 7],
 u1 4 .mov [.tm 8]])
 .ret)) }
theorem v133_is : vfunc Tryz.prog Tryz.f133 = some v133 := by kernel_rfl
def v134 : VF := { ntmps := 9, res := [.tmp 4], body :=
 (.seq (.region [u1 2 .box [.tm 0],
 u1 4 .mov [.cn (.int .i64 0)]])
 (.seq (.region [u1 5 (.load true 4) [.tm 2],
 u1 6 .mov [.tm 1],
 u1 7 (.call 30) [.tm 5, .tm 6],
 u1 8 (.field false 1 1) [.tm 7],
 u1 4 .mov [.tm 8]])
 .ret)) }
theorem v134_is : vfunc Tryz.prog Tryz.f134 = some v134 := by kernel_rfl
def v136 : VF := { ntmps := 10, res := [.tmp 2], body :=
 (.seq (.region [u1 1 .box [.tm 0],
 u1 2 .mov [.cn (.int .i64 0)]])
 (.seq (.draw [] [w1 3 (.fieldAddr 0) [.tm 1],
 w1 4 (.load true 4) [.tm 3],
 w1 6 (.fieldAddr 4) [.tm 1],
 w1 7 (.load true 4) [.tm 6],
 w1 5 (.call 26) [.tm 4],
 w1 8 (.call 26) [.tm 7],
 w1 9 (.ari .add) [.tm 5, .tm 8],
 w1 2 .mov [.tm 9]])
 .ret)) }
theorem v136_is : vfunc Tryz.prog Tryz.f136 = some v136 := by kernel_rfl
def v135 : VF := { ntmps := 14, res := [.tmp 4], body :=
 (.seq (.region [u1 2 .box [.tm 0],
 u1 4 .mov [.cn (.int .i64 0)]])
 (.seq (.draw [] [w1 5 (.fieldAddr 0) [.tm 2],
 w1 6 (.load true 4) [.tm 5],
 w1 7 .mov [.tm 1],
 w1 9 (.fieldAddr 4) [.tm 2],
 w1 10 (.load true 4) [.tm 9],
 w1 11 .mov [.tm 1],
 w1 8 (.call 133) [.tm 6, .tm 7],
 w1 12 (.call 133) [.tm 10, .tm 11],
 w1 13 .max [.tm 8, .tm 12],
 w1 4 .mov [.tm 13]])
 .ret)) }
theorem v135_is : vfunc Tryz.prog Tryz.f135 = some v135 := by kernel_rfl
def v137 : VF := { ntmps := 14, res := [.tmp 4], body :=
 (.seq (.region [u1 2 .box [.tm 0],
 u1 4 .mov [.cn (.int .i64 0)]])
 (.seq (.draw [] [w1 5 (.fieldAddr 0) [.tm 2],
 w1 6 (.load true 4) [.tm 5],
 w1 7 .mov [.tm 1],
 w1 9 (.fieldAddr 4) [.tm 2],
 w1 10 (.load true 4) [.tm 9],
 w1 11 .mov [.tm 1],
 w1 8 (.call 134) [.tm 6, .tm 7],
 w1 12 (.call 134) [.tm 10, .tm 11],
 w1 13 (.ari .add) [.tm 8, .tm 12],
 w1 4 .mov [.tm 13]])
 .ret)) }
theorem v137_is : vfunc Tryz.prog Tryz.f137 = some v137 := by kernel_rfl
def v51 : VF := { ntmps := 23, res := [.tmp 6], body :=
 (.seq (.region [u1 3 .box [.tm 0],
 u1 6 .mov [.cn (.int .i64 0)]])
 (.seq (.block 0 (.seq (.region [u1 8 .mov [.tm 1],
 u1 9 (.ari .mul) [.cn (.int .i64 100), .tm 8],
 u1 10 .mov [.tm 2],
 u1 11 (.fieldAddr 1) [.tm 3],
 u1 12 (.load false 1) [.tm 11],
 u1 13 (.ari .mul) [.tm 10, .tm 12],
 u1 14 (.cmp .geq) [.tm 9, .tm 13],
 u1 7 .mov [.tm 14]])
 (.cond (.tm 7) (.seq (.region [u1 6 .mov [.cn (.int .i64 1)]])
 .ret)
  (.seq (.region [u1 16 .mov [.tm 1],
 u1 17 (.ari .mul) [.cn (.int .i64 100), .tm 16],
 u1 18 .mov [.tm 2],
 u1 19 (.fieldAddr 0) [.tm 3],
 u1 20 (.load false 1) [.tm 19],
 u1 21 (.ari .mul) [.tm 18, .tm 20],
 u1 22 (.cmp .lss) [.tm 17, .tm 21],
 u1 15 .mov [.tm 22]])
 (.cond (.tm 15) (.seq (.region [u1 6 .mov [.cn (.int .i64 (-1))]])
 .ret)
  .skip)))))
 (.seq (.region [u1 6 .mov [.cn (.int .i64 0)]])
 .ret))) }
theorem v51_is : vfunc Tryz.prog Tryz.f51 = some v51 := by kernel_rfl
def v44 : VF := { ntmps := 24, res := [.tmp 2], body :=
 (.seq (.region [u1 1 .box [.tm 0],
 u1 2 .mov [.cn (.bool false)]])
 (.seq (.region [u1 3 (.fieldAddr 0) [.tm 1],
 u1 4 (.load false 1) [.tm 3],
 u1 5 (.call 50) [.tm 4, .cn (.fn (.func 25) [] [])],
 u1 6 .mov [.tm 5],
 u2 7 6 false (.fieldAddr 1) [.tm 1],
 u2 8 6 false (.fieldAddr 0) [.tm 7],
 u2 9 6 false (.load false 1) [.tm 8],
 u2 10 6 false (.call 29) [.tm 9, .cn (.int .i64 10), .cn (.int .i64 1000)],
 u1 11 .or [.tm 6, .tm 10],
 u1 12 .mov [.tm 11],
 u2 13 12 false (.fieldAddr 1) [.tm 1],
 u2 14 12 false (.fieldAddr 1) [.tm 13],
 u2 15 12 false (.load false 1) [.tm 14],
 u2 16 12 false (.call 29) [.tm 15, .cn (.int .i64 10), .cn (.int .i64 5000)],
 u1 17 .or [.tm 12, .tm 16],
 u1 18 .mov [.tm 17],
 u2 19 18 false (.fieldAddr 1) [.tm 1],
 u2 20 18 false (.fieldAddr 2) [.tm 19],
 u2 21 18 false (.load false 1) [.tm 20],
 u2 22 18 false (.call 29) [.tm 21, .cn (.int .i64 0), .cn (.int .i64 1000000000)],
 u1 23 .or [.tm 18, .tm 22],
 u1 2 .mov [.tm 23]])
 .ret)) }
theorem v44_is : vfunc Tryz.prog Tryz.f44 = some v44 := by kernel_rfl


def outC : Ctr := { alias := false, of := fun l => match l with
  | [.int .i64 n, .int .i64 lo, .int .i64 hi] => .fin (.bool (outN n lo hi)) []
  | _ => noC }
def E0 : Env := { ct := fun _ => none, fn := fun _ => none, meth := fun _ _ => none }
theorem E0_ok : EnvOk Tryz.prog E0 := by
  refine ⟨fun f c h => ?_, fun f vf h => ?_, (fun _ _ _ h => by cases h), by kernel_rfl⟩
  · cases h
  · cases h

theorem out_ok : outC.ok Tryz.prog 29 := by
  refine contract Tryz.func29 v29_is E0_ok 100 outC fun args k h => ⟨args, ?_⟩
  simp only [outC] at h
  split at h
  · refine ⟨by simp [leL, le], ?_⟩
    dsimp only [v29, go_sem, Option.bind, Option.map, List.append_nil, Nat.beq, List.cons_append, List.nil_append, List.append_eq, List.map_cons, List.map_nil, ite_self, reduceIte]
    simp only [true_and, and_true, imp_self, implies_true, decide_eq_true_eq, decide_eq_false_iff_not, Nat.reduceAdd, Nat.reduceLeDiff, Bool.not_not, reduceCtorEq, false_imp_iff, Bool.not_eq_true', Bool.not_eq_false', Bool.false_eq_true, and_self, forall_const, ne_eq, not_false_eq_true, Nat.reduceEqDiff]
    have h : k _ [] := h
    unfold outN at h
    exact ans_bool h
  · exact h.1.elim
def toeC : Ctr := { alias := false, of := fun l => match l with
  | [.agg [.int .i64 x, .int .i64 y]] => .fin (.bool (toeB (x, y))) []
  | _ => noC }
def palC : Ctr := { alias := false, of := fun l => match l with
  | [.agg [.int .i64 w, .int .i64 l, .int .i64 t, .int .i64 s]] => .fin (.bool (palB ⟨w, l, t, s⟩)) []
  | _ => noC }
def oneC : Ctr := { alias := false, of := fun l => match l with
  | [.int .i64 n] => .fin (.agg [.int .i64 n, .int .i64 n]) []
  | _ => noC }
def E1 : Env := { ct := fun n => match n with | 29 => some outC | _ => none, fn := fun _ => none, meth := fun _ _ => none }
theorem E1_ct29 : E1.ct 29 = some outC := rfl
theorem E1_ok : EnvOk Tryz.prog E1 := by
  refine ⟨fun f c h => ?_, fun f vf h => ?_, (fun _ _ _ h => by cases h), by kernel_rfl⟩
  · simp only [E1] at h
    split at h
    · cases h; exact ⟨out_ok, Tryz.f29, Tryz.func29, by kernel_rfl, by kernel_rfl⟩
    · cases h
  · cases h

theorem toe_ok : toeC.ok Tryz.prog 33 := by
  refine contract Tryz.func33 v33_is E1_ok 100 toeC fun args k h => ⟨args, ?_⟩
  simp only [toeC] at h
  split at h
  · refine ⟨by simp [leL, le], ?_⟩
    dsimp only [v33, E1_ct29, outC, go_sem, Option.bind, Option.map, List.append_nil, Nat.beq, List.cons_append, List.nil_append, List.append_eq, List.map_cons, List.map_nil, ite_self, reduceIte]
    simp only [true_and, and_true, imp_self, implies_true, decide_eq_true_eq, decide_eq_false_iff_not, Nat.reduceAdd, Nat.reduceLeDiff, Bool.not_not, reduceCtorEq, false_imp_iff, Bool.not_eq_true', Bool.not_eq_false', Bool.false_eq_true, and_self, forall_const, ne_eq, not_false_eq_true, Nat.reduceEqDiff]
    have h : k _ [] := h
    exact ans_bool h
  · exact h.1.elim
theorem pal_ok : palC.ok Tryz.prog 25 := by
  refine contract Tryz.func25 v25_is E1_ok 100 palC fun args k h => ⟨args, ?_⟩
  simp only [palC] at h
  split at h
  · refine ⟨by simp [leL, le], ?_⟩
    dsimp only [v25, E1_ct29, outC, go_sem, Option.bind, Option.map, List.append_nil, Nat.beq, List.cons_append, List.nil_append, List.append_eq, List.map_cons, List.map_nil, ite_self, reduceIte]
    simp only [true_and, and_true, imp_self, implies_true, decide_eq_true_eq, decide_eq_false_iff_not, Nat.reduceAdd, Nat.reduceLeDiff, Bool.not_not, reduceCtorEq, false_imp_iff, Bool.not_eq_true', Bool.not_eq_false', Bool.false_eq_true, and_self, forall_const, ne_eq, not_false_eq_true, Nat.reduceEqDiff]
    have h : k _ [] := h
    exact ans_bool h
  · exact h.1.elim
theorem one_ok : oneC.ok Tryz.prog 35 := by
  refine contract Tryz.func35 v35_is E1_ok 100 oneC fun args k h => ⟨args, ?_⟩
  simp only [oneC] at h
  split at h
  · refine ⟨by simp [leL, le], ?_⟩
    dsimp only [v35, go_sem, Option.bind, Option.map, List.append_nil, Nat.beq, List.cons_append, List.nil_append, List.append_eq, List.map_cons, List.map_nil, ite_self, reduceIte]
    simp only [true_and, and_true, imp_self, implies_true, decide_eq_true_eq, decide_eq_false_iff_not, Nat.reduceAdd, Nat.reduceLeDiff, Bool.not_not, reduceCtorEq, false_imp_iff, Bool.not_eq_true', Bool.not_eq_false', Bool.false_eq_true, and_self, forall_const, ne_eq, not_false_eq_true, Nat.reduceEqDiff]
    exact ans_le (show k _ [] from h) (by simp [expo, view, viewL, leL, le]) (fun _ => by simp [freshS, freshL])
  · exact h.1.elim

/-! ### Does a list contain .. -/

def predT (g : Nat) (cap : List SV) (F : Iv → Bool) : Prop := g = 33 ∧ cap = [] ∧ F = toeB
def predP (g : Nat) (cap : List SV) (F : Plt → Bool) : Prop := g = 25 ∧ cap = [] ∧ F = palB
def anyC {α : Type} [Inhabited α] (size : Nat) (e : α → List SV) (P : Nat → List SV → (α → Bool) → Prop) : Ctr := { alias := false, of := fun l => match l with
  | [.vs _ _ n sz get, .fn (.func g) [] cap] => .ex (List α) fun l => .ex (α → Bool) fun F => .pre (lsP size e n sz get l ∧ l.length ≤ 1000000000000 ∧ P g cap F) (.fin (.bool (l.any F)) [])
  | _ => noC }
def anyTC : Ctr := anyC 2 enc2 predT
def anyPC : Ctr := anyC 4 encP predP
def E3 : Env := { ct := fun n => match n with | 33 => some toeC | _ => none, fn := fun n => match n with | 77 => some v77 | _ => none, meth := fun _ _ => none }
theorem E3_ct33 : E3.ct 33 = some toeC := rfl
theorem E3_ct77 : E3.ct 77 = none := rfl
theorem E3_fn77 : E3.fn 77 = some v77 := rfl
theorem E3_ok : EnvOk Tryz.prog E3 := by
  refine ⟨fun f c h => ?_, fun f vf h => ?_, (fun _ _ _ h => by cases h), by kernel_rfl⟩
  · simp only [E3] at h
    split at h
    · cases h; exact ⟨toe_ok, Tryz.f33, Tryz.func33, by kernel_rfl, by kernel_rfl⟩
    · cases h
  · simp only [E3] at h
    split at h
    · cases h; exact ⟨Tryz.f77, Tryz.func77, v77_is, Tryz.f77, Tryz.func77, by kernel_rfl, by kernel_rfl⟩
    · cases h

theorem anyT_ok : anyTC.ok Tryz.prog 52 := by
  refine contract Tryz.func52 v52_is E3_ok 100 anyTC fun args k h => ?_
  simp only [anyTC, anyC] at h
  split at h
  · rename_i t z n sz get g cap
    obtain ⟨l, F, ⟨⟨rfl, rfl, hg⟩, hl, rfl, rfl, rfl⟩, h⟩ := h
    refine ⟨[.vs t z l.length 2 (fun k => enc2 (l.getD k default)), .fn (.func 33) [] []], ⟨by simpa [le] using hg, by simp [le_fn, bndL], trivial⟩, ?_⟩
    have h : k (.bool (l.any toeB)) [] := h
    dsimp only [v52, v77, E3_ct77, E3_fn77, enc2, go_sem, Option.bind, Option.map, List.append_nil, Nat.beq, List.cons_append, List.nil_append, List.append_eq, List.map_cons, List.map_nil, ite_self, reduceIte]
    simp only [true_and, and_true, imp_self, implies_true, decide_eq_true_eq, decide_eq_false_iff_not, Nat.reduceAdd, Nat.reduceLeDiff, Bool.not_not, reduceCtorEq, false_imp_iff, Bool.not_eq_true', Bool.not_eq_false', Bool.false_eq_true, and_self, forall_const, ne_eq, not_false_eq_true, Nat.reduceEqDiff]
    obtain ⟨F, hF⟩ : ∃ F, F = toeB := ⟨_, rfl⟩
    rw [← hF] at h
    refine Loop.keep [0, 0, 5, 0] Nat (fun i => [(8, .int .i64 i)]) (fun _ => []) [] (fun i => i ≤ l.length ∧ ∀ j, j < i → F (l.getD j default) = false) (fun i => l.length - i) ?_ ?_
    · refine ⟨0, ⟨Nat.zero_le _, fun j h => by omega⟩, ?_⟩
      dsimp only [go_sem, Option.bind, Option.map, List.append_nil, Nat.beq, List.cons_append, List.nil_append, List.append_eq, List.map_cons, List.map_nil, ite_self, reduceIte]
      simp only [leS_mk, leL_cons, leL_nil, le_junk, le_int, le_bool, le_nil, leLL_nil, leLL_cons, leH_cons, leH_nil, leH1_box, leH1_own, leH1_gone, le_vs, le_agg, le_tup, le_ptr, le_own, le_xp, le_fn, le_opt, le_val, le_elem, le_nil_own, le_nil_vs, leH_ghost, leL_chunk, leXL_id, bnd_int, bnd_bool, bnd_val, bnd_nil, bnd_junk, bnd_vs, bnd_xp, bnd_agg, bnd_tup, bnd_ptr, bnd_own, bnd_elem, bnd_fn, bnd_iface, bnd_opt, bndL_nil, bndL_cons, lenH_cons, lenH_nil, imp_self, implies_true, true_and, and_true]
      simp
    · rintro i ⟨hi, ha⟩
      dsimp only [E3_ct33, toeC, enc2, Int.toNat_natCast, go_sem, Option.bind, Option.map, List.append_nil, Nat.beq, List.cons_append, List.nil_append, List.append_eq, List.map_cons, List.map_nil, ite_self, reduceIte]
      simp only [true_and, and_true, imp_self, implies_true, decide_eq_true_eq, decide_eq_false_iff_not, Nat.reduceAdd, Nat.reduceLeDiff, Bool.not_not, reduceCtorEq, false_imp_iff, Bool.not_eq_true', Bool.not_eq_false', Bool.false_eq_true, and_self, forall_const, ne_eq, not_false_eq_true, Nat.reduceEqDiff]
      simp only [show toeB (((l.getD i default).1, (l.getD i default).2)) = F (l.getD i default) by rw [hF]]
      refine ⟨fun hlt => ⟨⟨by omega, hlt⟩, fun hb => ?_, fun hb => ?_⟩, fun hge => ?_⟩
      · have e : l.any F = true := List.any_eq_true.2 ⟨_, getD_mem (by omega : i < l.length), hb⟩
        have e2 : decide (0 ≤ (i : Int)) = true := decide_eq_true (by omega)
        rw [e2]
        exact ans_bool (by rw [e] at h; exact h)
      · refine ⟨i + 1, ⟨by omega, fun j hj => ?_⟩, by omega, ?_⟩
        · rcases Nat.lt_or_ge j i with h' | h'
          · exact ha j h'
          · obtain rfl : j = i := by omega
            exact hb
        · simp only [w_succ (i := i) (n := l.length) (by omega) (by omega), leS_mk, leL_cons, leL_nil, le_junk, le_int, le_bool, le_nil, leLL_nil, leLL_cons, leH_cons, leH_nil, leH1_box, leH1_own, leH1_gone, le_vs, le_agg, le_tup, le_ptr, le_own, le_xp, le_fn, le_opt, le_val, le_elem, le_nil_own, le_nil_vs, leH_ghost, leL_chunk, leXL_id, bnd_int, bnd_bool, bnd_val, bnd_nil, bnd_junk, bnd_vs, bnd_xp, bnd_agg, bnd_tup, bnd_ptr, bnd_own, bnd_elem, bnd_fn, bnd_iface, bnd_opt, bndL_nil, bndL_cons, lenH_cons, lenH_nil, imp_self, implies_true, true_and, and_true] <;> simp
      · have e : l.any F = false := List.any_eq_false.2 fun x hx => by
          obtain ⟨j, hj, rfl⟩ := mem_getD hx
          rw [ha j (by omega)]; simp
        exact ans_bool (by rw [e] at h; exact h)
  · exact h.1.elim
def E4 : Env := { ct := fun n => match n with | 25 => some palC | _ => none, fn := fun n => match n with | 76 => some v76 | _ => none, meth := fun _ _ => none }
theorem E4_ct25 : E4.ct 25 = some palC := rfl
theorem E4_ct76 : E4.ct 76 = none := rfl
theorem E4_fn76 : E4.fn 76 = some v76 := rfl
theorem E4_ok : EnvOk Tryz.prog E4 := by
  refine ⟨fun f c h => ?_, fun f vf h => ?_, (fun _ _ _ h => by cases h), by kernel_rfl⟩
  · simp only [E4] at h
    split at h
    · cases h; exact ⟨pal_ok, Tryz.f25, Tryz.func25, by kernel_rfl, by kernel_rfl⟩
    · cases h
  · simp only [E4] at h
    split at h
    · cases h; exact ⟨Tryz.f76, Tryz.func76, v76_is, Tryz.f76, Tryz.func76, by kernel_rfl, by kernel_rfl⟩
    · cases h

theorem anyP_ok : anyPC.ok Tryz.prog 50 := by
  refine contract Tryz.func50 v50_is E4_ok 100 anyPC fun args k h => ?_
  simp only [anyPC, anyC] at h
  split at h
  · rename_i t z n sz get g cap
    obtain ⟨l, F, ⟨⟨rfl, rfl, hg⟩, hl, rfl, rfl, rfl⟩, h⟩ := h
    refine ⟨[.vs t z l.length 4 (fun k => encP (l.getD k default)), .fn (.func 25) [] []], ⟨by simpa [le] using hg, by simp [le_fn, bndL], trivial⟩, ?_⟩
    have h : k (.bool (l.any palB)) [] := h
    dsimp only [v50, v76, E4_ct76, E4_fn76, encP, go_sem, Option.bind, Option.map, List.append_nil, Nat.beq, List.cons_append, List.nil_append, List.append_eq, List.map_cons, List.map_nil, ite_self, reduceIte]
    simp only [true_and, and_true, imp_self, implies_true, decide_eq_true_eq, decide_eq_false_iff_not, Nat.reduceAdd, Nat.reduceLeDiff, Bool.not_not, reduceCtorEq, false_imp_iff, Bool.not_eq_true', Bool.not_eq_false', Bool.false_eq_true, and_self, forall_const, ne_eq, not_false_eq_true, Nat.reduceEqDiff]
    obtain ⟨F, hF⟩ : ∃ F, F = palB := ⟨_, rfl⟩
    rw [← hF] at h
    refine Loop.keep [0, 0, 5, 0] Nat (fun i => [(8, .int .i64 i)]) (fun _ => []) [] (fun i => i ≤ l.length ∧ ∀ j, j < i → F (l.getD j default) = false) (fun i => l.length - i) ?_ ?_
    · refine ⟨0, ⟨Nat.zero_le _, fun j h => by omega⟩, ?_⟩
      dsimp only [go_sem, Option.bind, Option.map, List.append_nil, Nat.beq, List.cons_append, List.nil_append, List.append_eq, List.map_cons, List.map_nil, ite_self, reduceIte]
      simp only [leS_mk, leL_cons, leL_nil, le_junk, le_int, le_bool, le_nil, leLL_nil, leLL_cons, leH_cons, leH_nil, leH1_box, leH1_own, leH1_gone, le_vs, le_agg, le_tup, le_ptr, le_own, le_xp, le_fn, le_opt, le_val, le_elem, le_nil_own, le_nil_vs, leH_ghost, leL_chunk, leXL_id, bnd_int, bnd_bool, bnd_val, bnd_nil, bnd_junk, bnd_vs, bnd_xp, bnd_agg, bnd_tup, bnd_ptr, bnd_own, bnd_elem, bnd_fn, bnd_iface, bnd_opt, bndL_nil, bndL_cons, lenH_cons, lenH_nil, imp_self, implies_true, true_and, and_true]
      simp
    · rintro i ⟨hi, ha⟩
      dsimp only [E4_ct25, palC, encP, Int.toNat_natCast, go_sem, Option.bind, Option.map, List.append_nil, Nat.beq, List.cons_append, List.nil_append, List.append_eq, List.map_cons, List.map_nil, ite_self, reduceIte]
      simp only [true_and, and_true, imp_self, implies_true, decide_eq_true_eq, decide_eq_false_iff_not, Nat.reduceAdd, Nat.reduceLeDiff, Bool.not_not, reduceCtorEq, false_imp_iff, Bool.not_eq_true', Bool.not_eq_false', Bool.false_eq_true, and_self, forall_const, ne_eq, not_false_eq_true, Nat.reduceEqDiff]
      simp only [show palB ⟨(l.getD i default).w, (l.getD i default).l, (l.getD i default).t, (l.getD i default).s⟩ = F (l.getD i default) by rw [hF]]
      refine ⟨fun hlt => ⟨⟨by omega, hlt⟩, fun hb => ?_, fun hb => ?_⟩, fun hge => ?_⟩
      · have e : l.any F = true := List.any_eq_true.2 ⟨_, getD_mem (by omega : i < l.length), hb⟩
        have e2 : decide (0 ≤ (i : Int)) = true := decide_eq_true (by omega)
        rw [e2]
        exact ans_bool (by rw [e] at h; exact h)
      · refine ⟨i + 1, ⟨by omega, fun j hj => ?_⟩, by omega, ?_⟩
        · rcases Nat.lt_or_ge j i with h' | h'
          · exact ha j h'
          · obtain rfl : j = i := by omega
            exact hb
        · simp only [w_succ (i := i) (n := l.length) (by omega) (by omega), leS_mk, leL_cons, leL_nil, le_junk, le_int, le_bool, le_nil, leLL_nil, leLL_cons, leH_cons, leH_nil, leH1_box, leH1_own, leH1_gone, le_vs, le_agg, le_tup, le_ptr, le_own, le_xp, le_fn, le_opt, le_val, le_elem, le_nil_own, le_nil_vs, leH_ghost, leL_chunk, leXL_id, bnd_int, bnd_bool, bnd_val, bnd_nil, bnd_junk, bnd_vs, bnd_xp, bnd_agg, bnd_tup, bnd_ptr, bnd_own, bnd_elem, bnd_fn, bnd_iface, bnd_opt, bndL_nil, bndL_cons, lenH_cons, lenH_nil, imp_self, implies_true, true_and, and_true] <;> simp
      · have e : l.any F = false := List.any_eq_false.2 fun x hx => by
          obtain ⟨j, hj, rfl⟩ := mem_getD hx
          rw [ha j (by omega)]; simp
        exact ans_bool (by rw [e] at h; exact h)
  · exact h.1.elim

theorem ans_p2 {k : SV → List HO → Prop} {al : Bool} {hp : List HO} {r : Iv} (h : k (.agg (enc2 r)) []) : answers al k (.agg [.int .i64 r.1, .int .i64 r.2]) hp :=
  ans_le (show k _ [] from h) (le_self (.agg (enc2 r)) ⟨trivial, trivial, trivial⟩) (fun _ => by simp [enc2, freshS, freshL])

/-! ### Toes -/

def chkC : Ctr := { alias := false, of := fun l => match l with
  | [.agg [.vs _ _ n sz get]] => .ex (List Iv) fun l => .pre (lsP 2 enc2 n sz get l ∧ l.length ≤ 1000000000000) (.fin (.int .i64 (chkT l)) [])
  | _ => noC }
def areaC : Ctr := { alias := false, of := fun l => match l with
  | [.agg [.vs _ _ n sz get]] => .ex (List Iv) fun l => .pre (lsP 2 enc2 n sz get l ∧ l.length ≤ 1000 ∧ ∀ t ∈ l, toeB t = false) (.fin (.agg (enc2 (areaF l))) [])
  | _ => noC }
def E5 : Env := { ct := fun n => match n with | 52 => some anyTC | 35 => some oneC | 53 => some discC | _ => none, fn := fun _ => none, meth := fun _ _ => none }
theorem E5_ct52 : E5.ct 52 = some anyTC := rfl
theorem E5_ct35 : E5.ct 35 = some oneC := rfl
theorem E5_ct53 : E5.ct 53 = some discC := rfl
theorem E5_ok : EnvOk Tryz.prog E5 := by
  refine ⟨fun f c h => ?_, fun f vf h => ?_, (fun _ _ _ h => by cases h), by kernel_rfl⟩
  · simp only [E5] at h
    split at h
    · cases h; exact ⟨anyT_ok, Tryz.f52, Tryz.func52, by kernel_rfl, by kernel_rfl⟩
    · cases h; exact ⟨one_ok, Tryz.f35, Tryz.func35, by kernel_rfl, by kernel_rfl⟩
    · cases h; exact ⟨disc_ok, Tryz.f53, Tryz.func53, by kernel_rfl, by kernel_rfl⟩
    · cases h
  · cases h

theorem chk_ok : chkC.ok Tryz.prog 21 := by
  refine contract Tryz.func21 v21_is E5_ok 100 chkC fun args k h => ?_
  simp only [chkC] at h
  split at h
  · rename_i t z n sz get
    obtain ⟨l, ⟨⟨rfl, rfl, hg⟩, hl⟩, h⟩ := h
    refine ⟨[.agg [.vs t z l.length 2 (fun k => enc2 (l.getD k default))]], ⟨by simpa [le, leL] using hg, trivial⟩, ?_⟩
    have h : k (.int .i64 (chkT l)) [] := h
    dsimp only [v21, E5_ct52, anyTC, anyC, go_sem, Option.bind, Option.map, List.append_nil, Nat.beq, List.cons_append, List.nil_append, List.append_eq, List.map_cons, List.map_nil, ite_self, reduceIte]
    simp only [true_and, and_true, imp_self, implies_true, decide_eq_true_eq, decide_eq_false_iff_not, Nat.reduceAdd, Nat.reduceLeDiff, Bool.not_not, reduceCtorEq, false_imp_iff, Bool.not_eq_true', Bool.not_eq_false', Bool.false_eq_true, and_self, forall_const, ne_eq, not_false_eq_true, Nat.reduceEqDiff]
    refine ⟨fun hc => ?_, fun hc => ⟨l, toeB, ⟨lsP_self, by omega, rfl, rfl, rfl⟩, fun ha => ?_, fun ha => ?_⟩⟩
    · rw [chkT, if_pos (by omega)] at h
      exact ans_int h
    · rw [chkT, if_neg (by omega), if_pos ha] at h
      exact ans_int h
    · rw [chkT, if_neg (by omega), if_neg (by rw [ha]; simp)] at h
      exact ans_int h
  · exact h.1.elim
theorem area_ok : areaC.ok Tryz.prog 22 := by
  refine contract Tryz.func22 v22_is E5_ok 200 areaC fun args k h => ?_
  simp only [areaC] at h
  split at h
  · rename_i t z n sz get
    obtain ⟨l, ⟨⟨rfl, rfl, hg⟩, hl, hv⟩, h⟩ := h
    refine ⟨[.agg [.vs t z l.length 2 (fun k => enc2 (l.getD k default))]], ⟨by simpa [le, leL] using hg, trivial⟩, ?_⟩
    have h : k (.agg (enc2 (areaF l))) [] := h
    dsimp only [v22, enc2, go_sem, Option.bind, Option.map, List.append_nil, Nat.beq, List.cons_append, List.nil_append, List.append_eq, List.map_cons, List.map_nil, ite_self, reduceIte]
    simp only [true_and, and_true, imp_self, implies_true, decide_eq_true_eq, decide_eq_false_iff_not, Nat.reduceAdd, Nat.reduceLeDiff, Bool.not_not, reduceCtorEq, false_imp_iff, Bool.not_eq_true', Bool.not_eq_false', Bool.false_eq_true, and_self, forall_const, ne_eq, not_false_eq_true, Nat.reduceEqDiff]
    refine Loop.keep [1, 0, 0, 5, 0] Nat (fun i => [(11, .int .i64 i)]) (fun i => [(2, .box (enc2 (areaF (l.take i))))]) [] (fun i => i ≤ l.length) (fun i => l.length - i) ?_ ?_
    · refine ⟨0, Nat.zero_le _, ?_⟩
      dsimp only [enc2, go_sem, Option.bind, Option.map, List.append_nil, Nat.beq, List.cons_append, List.nil_append, List.append_eq, List.map_cons, List.map_nil, ite_self, reduceIte]
      simp only [leS_mk, leL_cons, leL_nil, le_junk, le_int, le_bool, le_nil, leLL_nil, leLL_cons, leH_cons, leH_nil, leH1_box, leH1_own, leH1_gone, le_vs, le_agg, le_tup, le_ptr, le_own, le_xp, le_fn, le_opt, le_val, le_elem, le_nil_own, le_nil_vs, leH_ghost, leL_chunk, leXL_id, bnd_int, bnd_bool, bnd_val, bnd_nil, bnd_junk, bnd_vs, bnd_xp, bnd_agg, bnd_tup, bnd_ptr, bnd_own, bnd_elem, bnd_fn, bnd_iface, bnd_opt, bndL_nil, bndL_cons, lenH_cons, lenH_nil, imp_self, implies_true, true_and, and_true] <;> simp [areaF]
    · rintro i hi
      dsimp only [E5_ct35, E5_ct53, oneC, discC, ivoC, enc2, Int.toNat_natCast, go_sem, Option.bind, Option.map, List.append_nil, Nat.beq, List.cons_append, List.nil_append, List.append_eq, List.map_cons, List.map_nil, ite_self, reduceIte]
      simp only [true_and, and_true, imp_self, implies_true, decide_eq_true_eq, decide_eq_false_iff_not, Nat.reduceAdd, Nat.reduceLeDiff, Bool.not_not, reduceCtorEq, false_imp_iff, Bool.not_eq_true', Bool.not_eq_false', Bool.false_eq_true, and_self, forall_const, ne_eq, not_false_eq_true, Nat.reduceEqDiff]
      refine ⟨fun hlt => ?_, fun hge => ?_⟩
      · have hi' : i < l.length := by omega
        have r1 := area_rng (l := l) hi hv
        have ht := toe_rng (hv _ (getD_mem hi'))
        have hd := discI_rng (b := (l.getD i default).1) (by omega) (by omega)
        rw [w6_raw (x := _ + (discF _).1.1) (by unfold discI at hd; omega) (by unfold discI at hd; omega), w6_raw (x := _ + (discF _).1.2) (by unfold discI at hd; omega) (by unfold discI at hd; omega)]
        refine ⟨⟨by omega, hlt⟩, by decide, by decide, i + 1, by omega, by omega, ?_⟩
        simp only [w_succ (i := i) (n := l.length) (by omega) (by omega), area_take hi', discI, leS_mk, leL_cons, leL_nil, le_junk, le_int, le_bool, le_nil, leLL_nil, leLL_cons, leH_cons, leH_nil, leH1_box, leH1_own, leH1_gone, le_vs, le_agg, le_tup, le_ptr, le_own, le_xp, le_fn, le_opt, le_val, le_elem, le_nil_own, le_nil_vs, leH_ghost, leL_chunk, leXL_id, bnd_int, bnd_bool, bnd_val, bnd_nil, bnd_junk, bnd_vs, bnd_xp, bnd_agg, bnd_tup, bnd_ptr, bnd_own, bnd_elem, bnd_fn, bnd_iface, bnd_opt, bndL_nil, bndL_cons, lenH_cons, lenH_nil, imp_self, implies_true, true_and, and_true] <;> simp
      · rw [take_full (by omega)]
        exact ans_p2 h
  · exact h.1.elim

/-! ### Pallets -/

def openC : Ctr := { alias := false, of := fun l => match l with
  | [.agg [.int .i64 w, .int .i64 l, .int .i64 t, .int .i64 s]] => .pre (palB ⟨w, l, t, s⟩ = false) (.fin (.int .i64 (openF ⟨w, l, t, s⟩)) [])
  | _ => noC }
def forC (f : Plt → Int → SV) : Ctr := { alias := false, of := fun l => match l with
  | [.agg [.int .i64 w, .int .i64 l, .int .i64 t, .int .i64 s], .int .i64 pr] => .pre (palB ⟨w, l, t, s⟩ = false ∧ 10 ≤ pr ∧ pr ≤ 5000) (.fin (f ⟨w, l, t, s⟩ pr) [])
  | _ => noC }
def forceC := forC fun p pr => .agg (enc2 (forceF p pr))
def fhC := forC fun p pr => .int .i64 (fh p pr)
def E6 : Env := { ct := fun n => match n with | 35 => some oneC | 34 => some sclC | _ => none, fn := fun _ => none, meth := fun _ _ => none }
theorem E6_ct35 : E6.ct 35 = some oneC := rfl
theorem E6_ct34 : E6.ct 34 = some sclC := rfl
theorem E6_ok : EnvOk Tryz.prog E6 := by
  refine ⟨fun f c h => ?_, fun f vf h => ?_, (fun _ _ _ h => by cases h), by kernel_rfl⟩
  · simp only [E6] at h
    split at h
    · cases h; exact ⟨one_ok, Tryz.f35, Tryz.func35, by kernel_rfl, by kernel_rfl⟩
    · cases h; exact ⟨scl_ok, Tryz.f34, Tryz.func34, by kernel_rfl, by kernel_rfl⟩
    · cases h
  · cases h

theorem open_ok : openC.ok Tryz.prog 26 := by
  refine contract Tryz.func26 v26_is E6_ok 100 openC fun args k h => ⟨args, ?_⟩
  simp only [openC] at h
  split at h
  · rename_i w l t s
    obtain ⟨hp, h⟩ := h
    refine ⟨by simp [leL, le], ?_⟩
    obtain ⟨h1, h2, h3, h4⟩ := pal_rng hp
    obtain ⟨_, _, h5, h6⟩ := open_rng hp
    dsimp only at h1 h2 h3 h4 h5 h6
    have h : k (.int .i64 (min (w * l) (t * (w + l)))) [] := h
    dsimp only [v26, go_sem, Option.bind, Option.map, List.append_nil, Nat.beq, List.cons_append, List.nil_append, List.append_eq, List.map_cons, List.map_nil, ite_self, reduceIte]
    simp only [true_and, and_true, imp_self, implies_true, decide_eq_true_eq, decide_eq_false_iff_not, Nat.reduceAdd, Nat.reduceLeDiff, Bool.not_not, reduceCtorEq, false_imp_iff, Bool.not_eq_true', Bool.not_eq_false', Bool.false_eq_true, and_self, forall_const, ne_eq, not_false_eq_true, Nat.reduceEqDiff]
    rw [w6_raw (x := w + l) (by omega) (by omega), w6_raw (x := w * l) (by omega) (by omega), w6_raw (x := t * (w + l)) (by omega) (by omega)]
    exact ans_int h
  · exact h.1.elim
theorem force_ok : forceC.ok Tryz.prog 30 := by
  refine contract Tryz.func30 v30_is E6_ok 200 forceC fun args k h => ⟨args, ?_⟩
  simp only [forceC, forC] at h
  split at h
  · rename_i w l t s pr
    obtain ⟨⟨hp, hp1, hp2⟩, h⟩ := h
    refine ⟨by simp [leL, le], ?_⟩
    obtain ⟨h1, h2, h3, h4⟩ := pal_rng hp
    obtain ⟨_, _, h5, h6⟩ := open_rng hp
    obtain ⟨f1, f2, f3, f4⟩ := force_rng hp hp1 hp2
    dsimp only at h1 h2 h3 h4 h5 h6
    unfold sclI at f1 f2
    dsimp only at f1 f2
    dsimp only [v30, E6_ct35, E6_ct34, oneC, sclC, enc2, go_sem, Option.bind, Option.map, List.append_nil, Nat.beq, List.cons_append, List.nil_append, List.append_eq, List.map_cons, List.map_nil, ite_self, reduceIte]
    simp only [true_and, and_true, imp_self, implies_true, decide_eq_true_eq, decide_eq_false_iff_not, Nat.reduceAdd, Nat.reduceLeDiff, Bool.not_not, reduceCtorEq, false_imp_iff, Bool.not_eq_true', Bool.not_eq_false', Bool.false_eq_true, and_self, forall_const, ne_eq, not_false_eq_true, Nat.reduceEqDiff]
    rw [w6_raw (x := w * l) (by omega) (by omega), w6_raw (x := _ + s) (by omega) (by omega), w6_raw (x := (sclF (w * l, w * l) pr 1000000).1.2 + s) (by omega) (by omega)]
    exact ⟨by decide, by decide, ans_p2 (r := forceF ⟨w, l, t, s⟩ pr) h⟩
  · exact h.1.elim
def E7 : Env := { ct := fun n => match n with | 30 => some forceC | 26 => some openC | _ => none, fn := fun _ => none, meth := fun _ _ => none }
theorem E7_ct30 : E7.ct 30 = some forceC := rfl
theorem E7_ok : EnvOk Tryz.prog E7 := by
  refine ⟨fun f c h => ?_, fun f vf h => ?_, (fun _ _ _ h => by cases h), by kernel_rfl⟩
  · simp only [E7] at h
    split at h
    · cases h; exact ⟨force_ok, Tryz.f30, Tryz.func30, by kernel_rfl, by kernel_rfl⟩
    · cases h; exact ⟨open_ok, Tryz.f26, Tryz.func26, by kernel_rfl, by kernel_rfl⟩
    · cases h
  · cases h

theorem heavy_ok : fhC.ok Tryz.prog 133 := by
  refine contract Tryz.func133 v133_is E7_ok 200 fhC fun args k h => ⟨args, ?_⟩
  simp only [fhC, forC] at h
  split at h
  · rename_i w l t s pr
    obtain ⟨⟨hp, hp1, hp2⟩, h⟩ := h
    refine ⟨by simp [leL, le], ?_⟩
    dsimp only [v133, E7_ct30, forceC, forC, enc2, go_sem, Option.bind, Option.map, List.append_nil, Nat.beq, List.cons_append, List.nil_append, List.append_eq, List.map_cons, List.map_nil, ite_self, reduceIte]
    simp only [true_and, and_true, imp_self, implies_true, decide_eq_true_eq, decide_eq_false_iff_not, Nat.reduceAdd, Nat.reduceLeDiff, Bool.not_not, reduceCtorEq, false_imp_iff, Bool.not_eq_true', Bool.not_eq_false', Bool.false_eq_true, and_self, forall_const, ne_eq, not_false_eq_true, Nat.reduceEqDiff]
    exact ⟨⟨hp, hp1, hp2⟩, ans_int h⟩
  · exact h.1.elim
theorem weight_ok : fhC.ok Tryz.prog 134 := by
  refine contract Tryz.func134 v134_is E7_ok 200 fhC fun args k h => ⟨args, ?_⟩
  simp only [fhC, forC] at h
  split at h
  · rename_i w l t s pr
    obtain ⟨⟨hp, hp1, hp2⟩, h⟩ := h
    refine ⟨by simp [leL, le], ?_⟩
    dsimp only [v134, E7_ct30, forceC, forC, enc2, go_sem, Option.bind, Option.map, List.append_nil, Nat.beq, List.cons_append, List.nil_append, List.append_eq, List.map_cons, List.map_nil, ite_self, reduceIte]
    simp only [true_and, and_true, imp_self, implies_true, decide_eq_true_eq, decide_eq_false_iff_not, Nat.reduceAdd, Nat.reduceLeDiff, Bool.not_not, reduceCtorEq, false_imp_iff, Bool.not_eq_true', Bool.not_eq_false', Bool.false_eq_true, and_self, forall_const, ne_eq, not_false_eq_true, Nat.reduceEqDiff]
    exact ⟨⟨hp, hp1, hp2⟩, ans_int h⟩
  · exact h.1.elim

def pairC (f : Plt → Plt → Int → Int) : Ctr := { alias := false, of := fun l => match l with
  | [.agg [.int .i64 w, .int .i64 l, .int .i64 t, .int .i64 s, .int .i64 w', .int .i64 l', .int .i64 t', .int .i64 s'], .int .i64 pr] => .pre ((palB ⟨w, l, t, s⟩ = false ∧ palB ⟨w', l', t', s'⟩ = false) ∧ 10 ≤ pr ∧ pr ≤ 5000) (.fin (.int .i64 (f ⟨w, l, t, s⟩ ⟨w', l', t', s'⟩ pr)) [])
  | _ => noC }
def heavy2C := pairC fun p q pr => max (fh p pr) (fh q pr)
def weight2C := pairC fun p q pr => fh p pr + fh q pr
def open2C : Ctr := { alias := false, of := fun l => match l with
  | [.agg [.int .i64 w, .int .i64 l, .int .i64 t, .int .i64 s, .int .i64 w', .int .i64 l', .int .i64 t', .int .i64 s']] => .pre (palB ⟨w, l, t, s⟩ = false ∧ palB ⟨w', l', t', s'⟩ = false) (.fin (.int .i64 (openF ⟨w, l, t, s⟩ + openF ⟨w', l', t', s'⟩)) [])
  | _ => noC }
def E8 : Env := { ct := fun n => match n with | 133 => some fhC | 134 => some fhC | 26 => some openC | _ => none, fn := fun _ => none, meth := fun _ _ => none }
theorem E8_ct133 : E8.ct 133 = some fhC := rfl
theorem E8_ct134 : E8.ct 134 = some fhC := rfl
theorem E8_ct26 : E8.ct 26 = some openC := rfl
theorem E8_ok : EnvOk Tryz.prog E8 := by
  refine ⟨fun f c h => ?_, fun f vf h => ?_, (fun _ _ _ h => by cases h), by kernel_rfl⟩
  · simp only [E8] at h
    split at h
    · cases h; exact ⟨heavy_ok, Tryz.f133, Tryz.func133, by kernel_rfl, by kernel_rfl⟩
    · cases h; exact ⟨weight_ok, Tryz.f134, Tryz.func134, by kernel_rfl, by kernel_rfl⟩
    · cases h; exact ⟨open_ok, Tryz.f26, Tryz.func26, by kernel_rfl, by kernel_rfl⟩
    · cases h
  · cases h

theorem heavy2_ok : heavy2C.ok Tryz.prog 135 := by
  refine contract Tryz.func135 v135_is E8_ok 200 heavy2C fun args k h => ⟨args, ?_⟩
  simp only [heavy2C, pairC] at h
  split at h
  · rename_i w l t s w' l' t' s' pr
    obtain ⟨⟨⟨hp, hq⟩, hp1, hp2⟩, h⟩ := h
    refine ⟨by simp [leL, le], ?_⟩
    dsimp only [v135, E8_ct133, fhC, forC, go_sem, Option.bind, Option.map, List.append_nil, Nat.beq, List.cons_append, List.nil_append, List.append_eq, List.map_cons, List.map_nil, ite_self, reduceIte]
    simp only [true_and, and_true, imp_self, implies_true, decide_eq_true_eq, decide_eq_false_iff_not, Nat.reduceAdd, Nat.reduceLeDiff, Bool.not_not, reduceCtorEq, false_imp_iff, Bool.not_eq_true', Bool.not_eq_false', Bool.false_eq_true, and_self, forall_const, ne_eq, not_false_eq_true, Nat.reduceEqDiff]
    exact ⟨⟨hp, hp1, hp2⟩, ⟨hq, hp1, hp2⟩, ans_int h⟩
  · exact h.1.elim
theorem weight2_ok : weight2C.ok Tryz.prog 137 := by
  refine contract Tryz.func137 v137_is E8_ok 200 weight2C fun args k h => ⟨args, ?_⟩
  simp only [weight2C, pairC] at h
  split at h
  · rename_i w l t s w' l' t' s' pr
    obtain ⟨⟨⟨hp, hq⟩, hp1, hp2⟩, h⟩ := h
    refine ⟨by simp [leL, le], ?_⟩
    dsimp only [v137, E8_ct134, fhC, forC, go_sem, Option.bind, Option.map, List.append_nil, Nat.beq, List.cons_append, List.nil_append, List.append_eq, List.map_cons, List.map_nil, ite_self, reduceIte]
    simp only [true_and, and_true, imp_self, implies_true, decide_eq_true_eq, decide_eq_false_iff_not, Nat.reduceAdd, Nat.reduceLeDiff, Bool.not_not, reduceCtorEq, false_imp_iff, Bool.not_eq_true', Bool.not_eq_false', Bool.false_eq_true, and_self, forall_const, ne_eq, not_false_eq_true, Nat.reduceEqDiff]
    have f1 := (force_rng hp hp1 hp2).2.2.2
    have f2 := (force_rng hq hp1 hp2).2.2.2
    rw [w6_raw (x := _ + _) (by omega) (by omega)]
    exact ⟨⟨hp, hp1, hp2⟩, ⟨hq, hp1, hp2⟩, ans_int h⟩
  · exact h.1.elim
theorem open2_ok : open2C.ok Tryz.prog 136 := by
  refine contract Tryz.func136 v136_is E8_ok 200 open2C fun args k h => ⟨args, ?_⟩
  simp only [open2C] at h
  split at h
  · rename_i w l t s w' l' t' s'
    obtain ⟨⟨hp, hq⟩, h⟩ := h
    refine ⟨by simp [leL, le], ?_⟩
    dsimp only [v136, E8_ct26, openC, go_sem, Option.bind, Option.map, List.append_nil, Nat.beq, List.cons_append, List.nil_append, List.append_eq, List.map_cons, List.map_nil, ite_self, reduceIte]
    simp only [true_and, and_true, imp_self, implies_true, decide_eq_true_eq, decide_eq_false_iff_not, Nat.reduceAdd, Nat.reduceLeDiff, Bool.not_not, reduceCtorEq, false_imp_iff, Bool.not_eq_true', Bool.not_eq_false', Bool.false_eq_true, and_self, forall_const, ne_eq, not_false_eq_true, Nat.reduceEqDiff]
    have f1 := open_rng hp
    have f2 := open_rng hq
    rw [w6_raw (x := _ + _) (by omega) (by omega)]
    exact ⟨hp, hq, ans_int h⟩
  · exact h.1.elim

def cmpC : Ctr := { alias := false, of := fun l => match l with
  | [.agg [.int .i64 x, .int .i64 y], .int .i64 o, .int .i64 per] => .pre ((0 ≤ x ∧ x ≤ 1000000000000) ∧ (0 ≤ y ∧ y ≤ 1000000000000) ∧ (0 ≤ o ∧ o ≤ 10000000000000) ∧ 10 ≤ per ∧ per ≤ 1000) (.fin (.int .i64 (cmpF (x, y) o per)) [])
  | _ => noC }
theorem cmp_ok : cmpC.ok Tryz.prog 51 := by
  refine contract Tryz.func51 v51_is E8_ok 200 cmpC fun args k h => ⟨args, ?_⟩
  simp only [cmpC] at h
  split at h
  · rename_i x y o per
    obtain ⟨⟨⟨h1, h2⟩, ⟨h3, h4⟩, ⟨h5, h6⟩, h7, h8⟩, h⟩ := h
    refine ⟨by simp [leL, le], ?_⟩
    have h : k (.int .i64 (cmpF (x, y) o per)) [] := h
    dsimp only [v51, go_sem, Option.bind, Option.map, List.append_nil, Nat.beq, List.cons_append, List.nil_append, List.append_eq, List.map_cons, List.map_nil, ite_self, reduceIte]
    simp only [true_and, and_true, imp_self, implies_true, decide_eq_true_eq, decide_eq_false_iff_not, Nat.reduceAdd, Nat.reduceLeDiff, Bool.not_not, reduceCtorEq, false_imp_iff, Bool.not_eq_true', Bool.not_eq_false', Bool.false_eq_true, and_self, forall_const, ne_eq, not_false_eq_true, Nat.reduceEqDiff]
    have m1 : per * x ≤ 1000 * 1000000000000 := mul_le' h8 h2 (by omega) (by omega)
    have m2 : per * y ≤ 1000 * 1000000000000 := mul_le' h8 h4 (by omega) (by omega)
    have m3 : 0 ≤ per * x := Int.mul_nonneg (by omega) h1
    have m4 : 0 ≤ per * y := Int.mul_nonneg (by omega) h3
    rw [w6_raw (x := 100 * o) (by omega) (by omega), w6_raw (x := per * x) (by omega) (by omega), w6_raw (x := per * y) (by omega) (by omega)]
    refine ⟨fun hc => ?_, fun hc => ⟨fun hd => ?_, fun hd => ?_⟩⟩
    · rw [cmpF, if_pos hc] at h; exact ans_int h
    · rw [cmpF, if_neg hc, if_pos hd] at h; exact ans_int h
    · rw [cmpF, if_neg hc, if_neg hd] at h; exact ans_int h
  · exact h.1.elim

/-! ### The shop -/

def shopC : Ctr := { alias := false, of := fun l => match l with
  | [.agg [.vs _ _ n sz get, .int .i64 per, .int .i64 pr, .int .i64 most]] => .ex (List Plt) fun l => .pre (lsP 4 encP n sz get l ∧ l.length ≤ 1000000000000) (.fin (.bool (l.any palB || wshB ⟨per, pr, most⟩)) [])
  | _ => noC }
def E9 : Env := { ct := fun n => match n with | 50 => some anyPC | 29 => some outC | _ => none, fn := fun _ => none, meth := fun _ _ => none }
theorem E9_ct50 : E9.ct 50 = some anyPC := rfl
theorem E9_ct29 : E9.ct 29 = some outC := rfl
theorem E9_ok : EnvOk Tryz.prog E9 := by
  refine ⟨fun f c h => ?_, fun f vf h => ?_, (fun _ _ _ h => by cases h), by kernel_rfl⟩
  · simp only [E9] at h
    split at h
    · cases h; exact ⟨anyP_ok, Tryz.f50, Tryz.func50, by kernel_rfl, by kernel_rfl⟩
    · cases h; exact ⟨out_ok, Tryz.f29, Tryz.func29, by kernel_rfl, by kernel_rfl⟩
    · cases h
  · cases h

theorem shop_ok : shopC.ok Tryz.prog 44 := by
  refine contract Tryz.func44 v44_is E9_ok 200 shopC fun args k h => ?_
  simp only [shopC] at h
  split at h
  · rename_i t z n sz get per pr most
    obtain ⟨l, ⟨⟨rfl, rfl, hg⟩, hl⟩, h⟩ := h
    refine ⟨[.agg [.vs t z l.length 4 (fun k => encP (l.getD k default)), .int .i64 per, .int .i64 pr, .int .i64 most]], ⟨by simpa [le, leL] using hg, trivial⟩, ?_⟩
    have h : k (.bool (l.any palB || wshB ⟨per, pr, most⟩)) [] := h
    dsimp only [v44, E9_ct50, E9_ct29, anyPC, anyC, outC, go_sem, Option.bind, Option.map, List.append_nil, Nat.beq, List.cons_append, List.nil_append, List.append_eq, List.map_cons, List.map_nil, ite_self, reduceIte]
    simp only [true_and, and_true, imp_self, implies_true, decide_eq_true_eq, decide_eq_false_iff_not, Nat.reduceAdd, Nat.reduceLeDiff, Bool.not_not, reduceCtorEq, false_imp_iff, Bool.not_eq_true', Bool.not_eq_false', Bool.false_eq_true, and_self, forall_const, ne_eq, not_false_eq_true, Nat.reduceEqDiff]
    refine ⟨l, palB, ⟨lsP_self, by omega, rfl, rfl, rfl⟩, ?_⟩
    refine ans_bool ?_
    rw [wshB, ← Bool.or_assoc, ← Bool.or_assoc] at h
    exact h
  · exact h.1.elim
end Go.Proofs.YtngccjllkgpjmaaGreat

/- Chests, walked: the best choice. -/
/- Chests, walked: the best choice. -/
set_option linter.all false
namespace Go.Proofs.YtngccjllkgpjmaaGreat
open Go Go.Vx
set_option maxRecDepth 100000
set_option maxHeartbeats 4000000

def v46 : VF := { ntmps := 65, res := [.tmp 4], body :=
 (.seq (.region [u1 2 .box [.tm 0],
 u1 3 .box [.tm 1],
 u1 4 .mov [.cn .nil]])
 (.seq (.region [u1 5 (.alloc [.nil]) []])
 (.seq (.region [u1 6 (.alloc [(.int .i64 0)]) []])
 (.seq (.region [u1 14 (.mkfn (.func 73) 0) [.tm 2, .tm 3, .tm 5, .tm 6],
 u1 7 .mov [.tm 14]])
 (.seq (.seq (.region [u1 15 (.fieldAddr 0) [.tm 2],
 u1 16 (.load false 1) [.tm 15],
 u1 17 .len [.tm 16],
 u1 18 .mov [.cn (.int .i64 0)]])
 (.block 0 (.loop (.seq (.region [u1 19 (.cmp .lss) [.tm 18, .tm 17]])
 (.seq (.cond (.tm 19) .skip
  (.exit 0))
 (.seq (.block 1 (.seq (.region [u1 20 .mov [.tm 18],
 u1 21 (.idxAddr 4) [.tm 16, .tm 18],
 u1 22 (.load true 4) [.tm 21],
 u1 9 (.alloc [(.int .i64 0), (.int .i64 0), (.int .i64 0), (.int .i64 0)]) [],
 u1 8 .mov [.tm 20],
 u0 (.store 4) [.tm 9, .tm 22]])
 (.region [u1 23 .mov [.tm 7],
 u1 24 (.load true 4) [.tm 9],
 u1 25 (.iface 62) [.tm 24],
 u1 26 .mov [.tm 8],
 u1 27 (.buildSlice 1 1 [(.int .i64 0)] [(0, 1)]) [.tm 26],
 u1 28 .callv [.tm 23, .tm 25, .tm 27]])))
 (.region [u1 29 (.ari .add) [.tm 18, .cn (.int .i64 1)],
 u1 18 .mov [.tm 29]])))))))
 (.seq (.seq (.region [u1 30 (.load false 1) [.tm 5],
 u1 31 (.isNil true) [.tm 30, .cn .nil]])
 (.cond (.tm 31) (.seq (.region [u1 32 (.load false 1) [.tm 5],
 u1 4 .mov [.tm 32]])
 .ret)
  .skip))
 (.seq (.seq (.region [u1 33 (.fieldAddr 0) [.tm 2],
 u1 34 (.load false 1) [.tm 33],
 u1 35 .len [.tm 34],
 u1 36 .mov [.cn (.int .i64 0)]])
 (.block 2 (.loop (.seq (.region [u1 37 (.cmp .lss) [.tm 36, .tm 35]])
 (.seq (.cond (.tm 37) .skip
  (.exit 2))
 (.seq (.block 3 (.seq (.region [u1 38 .mov [.tm 36],
 u1 39 (.idxAddr 4) [.tm 34, .tm 36],
 u1 40 (.load true 4) [.tm 39],
 u1 11 (.alloc [(.int .i64 0), (.int .i64 0), (.int .i64 0), (.int .i64 0)]) [],
 u1 10 .mov [.tm 38],
 u0 (.store 4) [.tm 11, .tm 40]])
 (.seq (.region [u1 41 (.fieldAddr 0) [.tm 2],
 u1 42 (.load false 1) [.tm 41],
 u1 43 .mov [.tm 10],
 u1 44 (.slice 4 true false) [.tm 42, .tm 43],
 u1 45 .len [.tm 44],
 u1 46 .mov [.cn (.int .i64 0)]])
 (.block 4 (.loop (.seq (.region [u1 47 (.cmp .lss) [.tm 46, .tm 45]])
 (.seq (.cond (.tm 47) .skip
  (.exit 4))
 (.seq (.block 5 (.seq (.region [u1 48 .mov [.tm 46],
 u1 49 (.idxAddr 4) [.tm 44, .tm 46],
 u1 50 (.load true 4) [.tm 49],
 u1 13 (.alloc [(.int .i64 0), (.int .i64 0), (.int .i64 0), (.int .i64 0)]) [],
 u1 12 .mov [.tm 48],
 u0 (.store 4) [.tm 13, .tm 50]])
 (.region [u1 51 .mov [.tm 7],
 u1 52 (.load true 4) [.tm 11],
 u1 53 (.load true 4) [.tm 13],
 u1 54 (.build [(.int .i64 0), (.int .i64 0), (.int .i64 0), (.int .i64 0), (.int .i64 0), (.int .i64 0), (.int .i64 0), (.int .i64 0)] [(0, 4), (4, 4)]) [.tm 52, .tm 53],
 u1 55 (.iface 116) [.tm 54],
 u1 56 .mov [.tm 10],
 u1 57 .mov [.tm 10],
 u1 58 .mov [.tm 12],
 u1 59 (.ari .add) [.tm 57, .tm 58],
 u1 60 (.buildSlice 1 2 [(.int .i64 0)] [(0, 1), (1, 1)]) [.tm 56, .tm 59],
 u1 61 .callv [.tm 51, .tm 55, .tm 60]])))
 (.region [u1 62 (.ari .add) [.tm 46, .cn (.int .i64 1)],
 u1 46 .mov [.tm 62]])))))))))
 (.region [u1 63 (.ari .add) [.tm 36, .cn (.int .i64 1)],
 u1 36 .mov [.tm 63]])))))))
 (.seq (.region [u1 64 (.load false 1) [.tm 5],
 u1 4 .mov [.tm 64]])
 .ret)))))))) }
theorem v46_is : vfunc Tryz.prog Tryz.f46 = some v46 := by kernel_rfl
def v73 : VF := { ntmps := 42, res := [], body :=
 (.seq (.seq (.draw [] [w1 9 .mov [.tm 0],
 w1 10 (.fieldAddr 1) [.tm 2],
 w1 11 (.fieldAddr 1) [.tm 10],
 w1 12 (.load false 1) [.tm 11],
 w1 14 (.fieldAddr 1) [.tm 2],
 w1 15 (.fieldAddr 2) [.tm 14],
 w1 16 (.load false 1) [.tm 15],
 w1 13 (.invoke "quintadena/chests.heaviest") [.tm 9, .tm 12],
 w1 17 (.cmp .gtr) [.tm 13, .tm 16],
 w1 18 .mov [.tm 17],
 ⟨u2 19 18 false (.load true 2) [.tm 3], []⟩,
 ⟨u2 20 18 false .mov [.tm 0], []⟩,
 ⟨u2 22 18 false (.fieldAddr 1) [.tm 2], []⟩,
 ⟨u2 23 18 false (.fieldAddr 0) [.tm 22], []⟩,
 ⟨u2 24 18 false (.load false 1) [.tm 23], []⟩,
 ⟨u2 21 18 false (.invoke "quintadena/chests.opening") [.tm 20], []⟩,
 ⟨u2 25 18 false (.call 51) [.tm 19, .tm 21, .tm 24], []⟩,
 ⟨u2 26 18 false (.cmp .neq) [.tm 25, .cn (.int .i64 1)], []⟩,
 w1 27 .or [.tm 18, .tm 26]])
 (.cond (.tm 27) .ret
  .skip))
 (.seq (.region [u1 28 .mov [.tm 0],
 u1 29 (.fieldAddr 1) [.tm 2],
 u1 30 (.fieldAddr 1) [.tm 29],
 u1 31 (.load false 1) [.tm 30],
 u1 32 (.invoke "quintadena/chests.weight") [.tm 28, .tm 31],
 u1 8 .mov [.tm 32]])
 (.seq (.region [u1 33 (.load false 1) [.tm 4],
 u1 34 (.isNil false) [.tm 33, .cn .nil],
 u1 35 .mov [.tm 34],
 u2 36 35 false .mov [.tm 8],
 u2 37 35 false (.load false 1) [.tm 5],
 u2 38 35 false (.cmp .lss) [.tm 36, .tm 37],
 u1 39 .or [.tm 35, .tm 38]])
 (.cond (.tm 39) (.region [u1 40 .mov [.tm 1],
 u1 41 .mov [.tm 8],
 u0 (.store 1) [.tm 4, .tm 40],
 u0 (.store 1) [.tm 5, .tm 41]])
  .skip)))) }
theorem v73_is : vfunc Tryz.prog Tryz.f73 = some v73 := by kernel_rfl


theorem plt_eta (p : Plt) : (⟨p.w, p.l, p.t, p.s⟩ : Plt) = p := rfl
def vsI (b : List Int) : SV := .vs true b.isEmpty b.length 1 (fun k => enc1 (b.getD k default))
def chooseC : Ctr := { alias := false, of := fun l => match l with
  | [.agg [.vs _ _ n sz get, .int .i64 per, .int .i64 pr, .int .i64 most], .agg [.int .i64 x, .int .i64 y]] => .ex (List Plt) fun l => .pre (lsP 4 encP n sz get l ∧ l.length ≤ 1000 ∧ (∀ p ∈ l, palB p = false) ∧ wshB ⟨per, pr, most⟩ = false ∧ (0 ≤ x ∧ x ≤ 1000000000000) ∧ 0 ≤ y ∧ y ≤ 1000000000000) (.fin (vsI (bestF (x, y) ⟨per, pr, most⟩ l)) [])
  | _ => noC }
def G0 : Env := { ct := fun n => match n with | 133 => some fhC | 134 => some fhC | 26 => some openC | 135 => some heavy2C | 137 => some weight2C | 136 => some open2C | 51 => some cmpC | _ => none, fn := fun n => match n with | 73 => some v73 | _ => none, meth := fun t m => match t, m with | 62, "quintadena/chests.heaviest" => some 133 | 62, "quintadena/chests.opening" => some 26 | 62, "quintadena/chests.weight" => some 134 | 116, "quintadena/chests.heaviest" => some 135 | 116, "quintadena/chests.opening" => some 136 | 116, "quintadena/chests.weight" => some 137 | _, _ => none }
theorem G0_ct133 : G0.ct 133 = some fhC := rfl
theorem G0_ct134 : G0.ct 134 = some fhC := rfl
theorem G0_ct26 : G0.ct 26 = some openC := rfl
theorem G0_ct135 : G0.ct 135 = some heavy2C := rfl
theorem G0_ct137 : G0.ct 137 = some weight2C := rfl
theorem G0_ct136 : G0.ct 136 = some open2C := rfl
theorem G0_ct51 : G0.ct 51 = some cmpC := rfl
theorem G0_ct73 : G0.ct 73 = none := rfl
theorem G0_fn73 : G0.fn 73 = some v73 := rfl
theorem G0_ok : EnvOk Tryz.prog G0 := by
  refine ⟨fun f c h => ?_, fun f vf h => ?_, fun t m f h => ?_, by kernel_rfl⟩
  · simp only [G0] at h
    split at h
    · cases h; exact ⟨heavy_ok, Tryz.f133, Tryz.func133, by kernel_rfl, by kernel_rfl⟩
    · cases h; exact ⟨weight_ok, Tryz.f134, Tryz.func134, by kernel_rfl, by kernel_rfl⟩
    · cases h; exact ⟨open_ok, Tryz.f26, Tryz.func26, by kernel_rfl, by kernel_rfl⟩
    · cases h; exact ⟨heavy2_ok, Tryz.f135, Tryz.func135, by kernel_rfl, by kernel_rfl⟩
    · cases h; exact ⟨weight2_ok, Tryz.f137, Tryz.func137, by kernel_rfl, by kernel_rfl⟩
    · cases h; exact ⟨open2_ok, Tryz.f136, Tryz.func136, by kernel_rfl, by kernel_rfl⟩
    · cases h; exact ⟨cmp_ok, Tryz.f51, Tryz.func51, by kernel_rfl, by kernel_rfl⟩
    · cases h
  · simp only [G0] at h
    split at h
    · cases h; exact ⟨Tryz.f73, Tryz.func73, v73_is, Tryz.f73, Tryz.func73, by kernel_rfl, by kernel_rfl⟩
    · cases h
  · simp only [G0] at h
    split at h
    · cases h; kernel_rfl
    · cases h; kernel_rfl
    · cases h; kernel_rfl
    · cases h; kernel_rfl
    · cases h; kernel_rfl
    · cases h; kernel_rfl
    · cases h
theorem G0_me62heaviest : G0.meth 62 "quintadena/chests.heaviest" = some 133 := rfl
theorem G0_me62opening : G0.meth 62 "quintadena/chests.opening" = some 26 := rfl
theorem G0_me62weight : G0.meth 62 "quintadena/chests.weight" = some 134 := rfl
theorem G0_me116heaviest : G0.meth 116 "quintadena/chests.heaviest" = some 135 := rfl
theorem G0_me116opening : G0.meth 116 "quintadena/chests.opening" = some 136 := rfl
theorem G0_me116weight : G0.meth 116 "quintadena/chests.weight" = some 137 := rfl


theorem ans_vsI {k : SV → List HO → Prop} {al : Bool} {hp : List HO} {b : List Int} (h : k (vsI b) []) : answers al k (vsI b) hp :=
  ans_le (show k _ [] from h) (by simp only [vsI, expo, view]; exact ⟨fun h => h, rfl, rfl, rfl, fun j _ => by simp [enc1, viewL, view, leXL, leX]⟩) (fun _ => by simp [vsI, enc1, freshS, freshL])
theorem choose_ok : chooseC.ok Tryz.prog 46 := by
  refine contract Tryz.func46 v46_is G0_ok 400 chooseC fun args k h => ?_
  simp only [chooseC] at h
  split at h
  · rename_i t z n sz get per pr most x y
    obtain ⟨l, ⟨⟨rfl, rfl, hg⟩, hl, hv, hw, ha1, ha2⟩, h⟩ := h
    refine ⟨[.agg [.vs t z l.length 4 (fun k => encP (l.getD k default)), .int .i64 per, .int .i64 pr, .int .i64 most], .agg [.int .i64 x, .int .i64 y]], ⟨by simpa [le, leL] using hg, by simp [le, leL], trivial⟩, ?_⟩
    have h : k (vsI (bestF (x, y) ⟨per, pr, most⟩ l)) [] := h
    have hpr : (10 ≤ per ∧ per ≤ 1000) ∧ 10 ≤ pr ∧ pr ≤ 5000 := by
      unfold wshB at hw
      rw [Bool.or_eq_false_iff, Bool.or_eq_false_iff, outN_f, outN_f] at hw; exact hw.1
    dsimp only [v46, encP, go_sem, Option.bind, Option.map, List.append_nil, Nat.beq, List.cons_append, List.nil_append, List.append_eq, List.map_cons, List.map_nil, ite_self, reduceIte]
    simp only [true_and, and_true, imp_self, implies_true, decide_eq_true_eq, decide_eq_false_iff_not, Nat.reduceAdd, Nat.reduceLeDiff, Bool.not_not, reduceCtorEq, false_imp_iff, Bool.not_eq_true', Bool.not_eq_false', Bool.false_eq_true, and_self, forall_const, ne_eq, not_false_eq_true, Nat.reduceEqDiff]
    refine Loop.keepF [2, 0, 1, 0, 0, 8, 0] Nat (fun i => [(18, .int .i64 i)]) (fun i => [(2, .box [vsI (ones1 (x, y) ⟨per, pr, most⟩ l i).1]), (3, .box [.int .i64 (ones1 (x, y) ⟨per, pr, most⟩ l i).2])]) [] (fun i => i ≤ l.length) (fun i => l.length - i) ?_ ?_
    · refine ⟨0, Nat.zero_le _, [], trivial, ?_⟩
      dsimp only [vsI, ones1, List.isEmpty_nil, List.length_nil, go_sem, Option.bind, Option.map, List.append_nil, Nat.beq, List.cons_append, List.nil_append, List.append_eq, List.map_cons, List.map_nil, ite_self, reduceIte]
      simp only [leS_mk, leL_cons, leL_nil, le_junk, le_int, le_bool, le_nil, leLL_nil, leLL_cons, leH_cons, leH_nil, leH1_box, leH1_own, leH1_gone, le_vs, le_agg, le_tup, le_ptr, le_own, le_xp, le_fn, le_opt, le_val, le_elem, le_nil_own, le_nil_vs, leH_ghost, leL_chunk, leXL_id, bnd_int, bnd_bool, bnd_val, bnd_nil, bnd_junk, bnd_vs, bnd_xp, bnd_agg, bnd_tup, bnd_ptr, bnd_own, bnd_elem, bnd_fn, bnd_iface, bnd_opt, bndL_nil, bndL_cons, lenH_cons, lenH_nil, imp_self, implies_true, true_and, and_true] <;> simp
    · rintro i hi
      dsimp only [v73, vsI, G0_ct73, G0_fn73, G0_ct133, G0_ct26, G0_ct134, G0_ct51, G0_me62heaviest, G0_me62opening, G0_me62weight, fhC, forC, openC, cmpC, encP, Int.toNat_natCast, go_sem, Option.bind, Option.map, List.append_nil, Nat.beq, List.cons_append, List.nil_append, List.append_eq, List.map_cons, List.map_nil, ite_self, reduceIte]
      simp only [true_and, and_true, imp_self, implies_true, decide_eq_true_eq, decide_eq_false_iff_not, Nat.reduceAdd, Nat.reduceLeDiff, Bool.not_not, reduceCtorEq, false_imp_iff, Bool.not_eq_true', Bool.not_eq_false', Bool.false_eq_true, and_self, forall_const, ne_eq, not_false_eq_true, Nat.reduceEqDiff, plt_eta]
      refine ⟨fun hlt => ?_, fun hge => ?_⟩
      · have hi' : i < l.length := by omega
        have hp := hv _ (getD_mem hi')
        have ho := open_rng hp
        have e1 : ones1 (x, y) ⟨per, pr, most⟩ l (i + 1) = tryF (x, y) ⟨per, pr, most⟩ (ones1 (x, y) ⟨per, pr, most⟩ l i) (cand1 ⟨per, pr, most⟩ l i) := rfl
        unfold tryF cand1 at e1
        dsimp only at e1
        refine ⟨⟨by omega, hlt⟩, by decide, ⟨hp, hpr.2⟩, fun _ => hp, fun _ => ⟨ha1, ha2, ⟨ho.1, by omega⟩, hpr.1⟩, fun hc => ?_, fun hc => ⟨⟨hp, hpr.2⟩, fun hd => ?_, fun hd => ?_⟩⟩
        · rw [Bool.or_eq_true, decide_eq_true_eq, Bool.not_eq_true', decide_eq_false_iff_not] at hc
          rw [if_pos hc] at e1
          refine ⟨i + 1, by omega, by omega, [5], ?_, ?_⟩
          · dsimp only [go_sem, Option.bind, Option.map, List.append_nil, Nat.beq, List.cons_append, List.nil_append, List.append_eq, List.map_cons, List.map_nil, ite_self, reduceIte]
            exact ⟨fun k hk => by obtain rfl : k = 0 := by omega
                                  rfl, trivial⟩
          · dsimp only [go_sem, Option.bind, Option.map, List.append_nil, Nat.beq, List.cons_append, List.nil_append, List.append_eq, List.map_cons, List.map_nil, ite_self, reduceIte]
            simp only [w_succ (i := i) (n := l.length) (by omega) (by omega), e1, leS_mk, leL_cons, leL_nil, le_junk, le_int, le_bool, le_nil, leLL_nil, leLL_cons, leH_cons, leH_nil, leH1_box, leH1_own, leH1_gone, le_vs, le_agg, le_tup, le_ptr, le_own, le_xp, le_fn, le_opt, le_val, le_elem, le_nil_own, le_nil_vs, leH_ghost, leL_chunk, leXL_id, bnd_int, bnd_bool, bnd_val, bnd_nil, bnd_junk, bnd_vs, bnd_xp, bnd_agg, bnd_tup, bnd_ptr, bnd_own, bnd_elem, bnd_fn, bnd_iface, bnd_opt, bndL_nil, bndL_cons, lenH_cons, lenH_nil, imp_self, implies_true, true_and, and_true] <;> simp
        · rw [Bool.or_eq_false_iff, decide_eq_false_iff_not, Bool.not_eq_false', decide_eq_true_eq] at hc
          rw [if_neg (by omega)] at e1
          rw [Bool.or_eq_true, List.isEmpty_iff, decide_eq_true_eq] at hd
          rw [if_pos hd] at e1
          refine ⟨i + 1, by omega, by omega, [5], ?_, ?_⟩
          · dsimp only [go_sem, Option.bind, Option.map, List.append_nil, Nat.beq, List.cons_append, List.nil_append, List.append_eq, List.map_cons, List.map_nil, ite_self, reduceIte]
            exact ⟨fun k hk => by obtain rfl : k = 0 := by omega
                                  rfl, trivial⟩
          · dsimp only [go_sem, Option.bind, Option.map, List.append_nil, Nat.beq, List.cons_append, List.nil_append, List.append_eq, List.map_cons, List.map_nil, ite_self, reduceIte]
            simp only [w_succ (i := i) (n := l.length) (by omega) (by omega), e1, leS_mk, leL_cons, leL_nil, le_junk, le_int, le_bool, le_nil, leLL_nil, leLL_cons, leH_cons, leH_nil, leH1_box, leH1_own, leH1_gone, le_vs, le_agg, le_tup, le_ptr, le_own, le_xp, le_fn, le_opt, le_val, le_elem, le_nil_own, le_nil_vs, leH_ghost, leL_chunk, leXL_id, bnd_int, bnd_bool, bnd_val, bnd_nil, bnd_junk, bnd_vs, bnd_xp, bnd_agg, bnd_tup, bnd_ptr, bnd_own, bnd_elem, bnd_fn, bnd_iface, bnd_opt, bndL_nil, bndL_cons, lenH_cons, lenH_nil, imp_self, implies_true, true_and, and_true] <;> simp
            exact leXL_self _
        · rw [Bool.or_eq_false_iff, decide_eq_false_iff_not, Bool.not_eq_false', decide_eq_true_eq] at hc
          rw [if_neg (by omega)] at e1
          rw [Bool.or_eq_false_iff, List.isEmpty_eq_false_iff, decide_eq_false_iff_not] at hd
          rw [if_neg (by rintro (h | h); exact hd.1 h; exact hd.2 h)] at e1
          refine ⟨i + 1, by omega, by omega, [5], ?_, ?_⟩
          · dsimp only [go_sem, Option.bind, Option.map, List.append_nil, Nat.beq, List.cons_append, List.nil_append, List.append_eq, List.map_cons, List.map_nil, ite_self, reduceIte]
            exact ⟨fun k hk => by obtain rfl : k = 0 := by omega
                                  rfl, trivial⟩
          · dsimp only [go_sem, Option.bind, Option.map, List.append_nil, Nat.beq, List.cons_append, List.nil_append, List.append_eq, List.map_cons, List.map_nil, ite_self, reduceIte]
            simp only [w_succ (i := i) (n := l.length) (by omega) (by omega), e1, leS_mk, leL_cons, leL_nil, le_junk, le_int, le_bool, le_nil, leLL_nil, leLL_cons, leH_cons, leH_nil, leH1_box, leH1_own, leH1_gone, le_vs, le_agg, le_tup, le_ptr, le_own, le_xp, le_fn, le_opt, le_val, le_elem, le_nil_own, le_nil_vs, leH_ghost, leL_chunk, leXL_id, bnd_int, bnd_bool, bnd_val, bnd_nil, bnd_junk, bnd_vs, bnd_xp, bnd_agg, bnd_tup, bnd_ptr, bnd_own, bnd_elem, bnd_fn, bnd_iface, bnd_opt, bndL_nil, bndL_cons, lenH_cons, lenH_nil, imp_self, implies_true, true_and, and_true] <;> simp
      · obtain rfl : i = l.length := by omega
        refine ⟨fun hn => ?_, fun hn => ?_⟩
        · rw [List.isEmpty_eq_false_iff] at hn
          rw [bestF, if_pos hn] at h
          exact ans_vsI h
        · rw [List.isEmpty_iff] at hn
          rw [bestF, if_neg (by rw [hn]; simp)] at h
          generalize ones1 (x, y) ⟨per, pr, most⟩ l l.length = b0 at *
          refine Loop.keepF [2, 0, 1, 0, 0, 26, 0] Nat (fun i => [(36, .int .i64 i)]) (fun i => [(2, .box [vsI (twos (x, y) ⟨per, pr, most⟩ l b0 i).1]), (3, .box [.int .i64 (twos (x, y) ⟨per, pr, most⟩ l b0 i).2])]) [] (fun i => i ≤ l.length) (fun i => l.length - i) ?_ ?_
          · refine ⟨0, Nat.zero_le _, [], trivial, ?_⟩
            dsimp only [vsI, twos, go_sem, Option.bind, Option.map, List.append_nil, Nat.beq, List.cons_append, List.nil_append, List.append_eq, List.map_cons, List.map_nil, ite_self, reduceIte]
            simp only [leS_mk, leL_cons, leL_nil, le_junk, le_int, le_bool, le_nil, leLL_nil, leLL_cons, leH_cons, leH_nil, leH1_box, leH1_own, leH1_gone, le_vs, le_agg, le_tup, le_ptr, le_own, le_xp, le_fn, le_opt, le_val, le_elem, le_nil_own, le_nil_vs, leH_ghost, leL_chunk, leXL_id, bnd_int, bnd_bool, bnd_val, bnd_nil, bnd_junk, bnd_vs, bnd_xp, bnd_agg, bnd_tup, bnd_ptr, bnd_own, bnd_elem, bnd_fn, bnd_iface, bnd_opt, bndL_nil, bndL_cons, lenH_cons, lenH_nil, imp_self, implies_true, true_and, and_true] <;> simp
          · rintro i hi
            dsimp only [vsI, encP, Int.toNat_natCast, go_sem, Option.bind, Option.map, List.append_nil, Nat.beq, List.cons_append, List.nil_append, List.append_eq, List.map_cons, List.map_nil, ite_self, reduceIte]
            simp only [true_and, and_true, imp_self, implies_true, decide_eq_true_eq, decide_eq_false_iff_not, Nat.reduceAdd, Nat.reduceLeDiff, Bool.not_not, reduceCtorEq, false_imp_iff, Bool.not_eq_true', Bool.not_eq_false', Bool.false_eq_true, and_self, forall_const, ne_eq, not_false_eq_true, Nat.reduceEqDiff, plt_eta]
            refine ⟨fun hlt => ?_, fun hge => ?_⟩
            · have hi' : i < l.length := by omega
              have hp := hv _ (getD_mem hi')
              have ho := open_rng hp
              refine ⟨⟨by omega, hlt⟩, ⟨by omega, by omega⟩, ?_⟩
              have hsub : subLo l.length i = l.length - i := by cases i <;> rfl
              rw [hsub]
              generalize hb : twos (x, y) ⟨per, pr, most⟩ l b0 i = b
              refine Loop.keepF [2, 0, 1, 0, 0, 2, 0, 22, 0, 0, 7, 0] Nat (fun d => [(46, .int .i64 d)]) (fun d => [(2, .box [vsI (row2 (x, y) ⟨per, pr, most⟩ l i b d).1]), (3, .box [.int .i64 (row2 (x, y) ⟨per, pr, most⟩ l i b d).2])]) [] (fun d => d ≤ l.length - i) (fun d => l.length - i - d) ?_ ?_
              · refine ⟨0, Nat.zero_le _, [], trivial, ?_⟩
                dsimp only [vsI, row2, go_sem, Option.bind, Option.map, List.append_nil, Nat.beq, List.cons_append, List.nil_append, List.append_eq, List.map_cons, List.map_nil, ite_self, reduceIte]
                simp only [leS_mk, leL_cons, leL_nil, le_junk, le_int, le_bool, le_nil, leLL_nil, leLL_cons, leH_cons, leH_nil, leH1_box, leH1_own, leH1_gone, le_vs, le_agg, le_tup, le_ptr, le_own, le_xp, le_fn, le_opt, le_val, le_elem, le_nil_own, le_nil_vs, leH_ghost, leL_chunk, leXL_id, bnd_int, bnd_bool, bnd_val, bnd_nil, bnd_junk, bnd_vs, bnd_xp, bnd_agg, bnd_tup, bnd_ptr, bnd_own, bnd_elem, bnd_fn, bnd_iface, bnd_opt, bndL_nil, bndL_cons, lenH_cons, lenH_nil, imp_self, implies_true, true_and, and_true] <;> simp
              · rintro d hd
                dsimp only [v73, vsI, G0_ct73, G0_fn73, G0_ct135, G0_ct136, G0_ct137, G0_ct51, G0_me116heaviest, G0_me116opening, G0_me116weight, heavy2C, weight2C, pairC, open2C, cmpC, encP, Int.toNat_natCast, go_sem, Option.bind, Option.map, List.append_nil, Nat.beq, List.cons_append, List.nil_append, List.append_eq, List.map_cons, List.map_nil, ite_self, reduceIte]
                have hadd : addLo i d = i + d := by cases i <;> simp [addLo]
                simp only [true_and, and_true, imp_self, implies_true, decide_eq_true_eq, decide_eq_false_iff_not, Nat.reduceAdd, Nat.reduceLeDiff, Bool.not_not, reduceCtorEq, false_imp_iff, Bool.not_eq_true', Bool.not_eq_false', Bool.false_eq_true, and_self, forall_const, ne_eq, not_false_eq_true, Nat.reduceEqDiff, plt_eta, hadd]
                refine ⟨fun hlt2 => ?_, fun hge2 => ?_⟩
                · have hi2 : i + d < l.length := by omega
                  have hp2 := hv _ (getD_mem hi2)
                  have ho2 := open_rng hp2
                  have e1 : row2 (x, y) ⟨per, pr, most⟩ l i b (d + 1) = tryF (x, y) ⟨per, pr, most⟩ (row2 (x, y) ⟨per, pr, most⟩ l i b d) (cand2 ⟨per, pr, most⟩ l i (i + d)) := rfl
                  unfold tryF cand2 at e1
                  dsimp only at e1
                  have hid : IntKind.i64.wrap ((i : Int) + (d : Int)) = ((i + d : Nat) : Int) := by rw [w6_raw (by omega) (by omega)]; omega
                  refine ⟨⟨by omega, hlt2⟩, by decide, ⟨⟨hp, hp2⟩, hpr.2⟩, fun _ => ⟨hp, hp2⟩, fun _ => ⟨ha1, ha2, ⟨by omega, by omega⟩, hpr.1⟩, fun hc => ?_, fun hc => ⟨⟨⟨hp, hp2⟩, hpr.2⟩, fun hd => ?_, fun hd => ?_⟩⟩
                  · rw [Bool.or_eq_true, decide_eq_true_eq, Bool.not_eq_true', decide_eq_false_iff_not] at hc
                    rw [if_pos hc] at e1
                    refine ⟨d + 1, by omega, by omega, [6], ?_, ?_⟩
                    · dsimp only [go_sem, Option.bind, Option.map, List.append_nil, Nat.beq, List.cons_append, List.nil_append, List.append_eq, List.map_cons, List.map_nil, ite_self, reduceIte]
                      refine ⟨fun k hk => ?_, trivial⟩
                      match k, hk with
                      | 0, _ => rfl
                      | 1, _ => rfl
                    · dsimp only [go_sem, Option.bind, Option.map, List.append_nil, Nat.beq, List.cons_append, List.nil_append, List.append_eq, List.map_cons, List.map_nil, ite_self, reduceIte]
                      simp only [w_succ (i := d) (n := l.length - i) (by omega) (by omega), hid, e1, leS_mk, leL_cons, leL_nil, le_junk, le_int, le_bool, le_nil, leLL_nil, leLL_cons, leH_cons, leH_nil, leH1_box, leH1_own, leH1_gone, le_vs, le_agg, le_tup, le_ptr, le_own, le_xp, le_fn, le_opt, le_val, le_elem, le_nil_own, le_nil_vs, leH_ghost, leL_chunk, leXL_id, bnd_int, bnd_bool, bnd_val, bnd_nil, bnd_junk, bnd_vs, bnd_xp, bnd_agg, bnd_tup, bnd_ptr, bnd_own, bnd_elem, bnd_fn, bnd_iface, bnd_opt, bndL_nil, bndL_cons, lenH_cons, lenH_nil, imp_self, implies_true, true_and, and_true] <;> simp
                  · rw [Bool.or_eq_false_iff, decide_eq_false_iff_not, Bool.not_eq_false', decide_eq_true_eq] at hc
                    rw [if_neg (by omega)] at e1
                    rw [Bool.or_eq_true, List.isEmpty_iff, decide_eq_true_eq] at hd
                    rw [if_pos hd] at e1
                    refine ⟨d + 1, by omega, by omega, [6], ?_, ?_⟩
                    · dsimp only [go_sem, Option.bind, Option.map, List.append_nil, Nat.beq, List.cons_append, List.nil_append, List.append_eq, List.map_cons, List.map_nil, ite_self, reduceIte]
                      refine ⟨fun k hk => ?_, trivial⟩
                      match k, hk with
                      | 0, _ => rfl
                      | 1, _ => rfl
                    · dsimp only [go_sem, Option.bind, Option.map, List.append_nil, Nat.beq, List.cons_append, List.nil_append, List.append_eq, List.map_cons, List.map_nil, ite_self, reduceIte]
                      simp only [w_succ (i := d) (n := l.length - i) (by omega) (by omega), hid, e1, leS_mk, leL_cons, leL_nil, le_junk, le_int, le_bool, le_nil, leLL_nil, leLL_cons, leH_cons, leH_nil, leH1_box, leH1_own, leH1_gone, le_vs, le_agg, le_tup, le_ptr, le_own, le_xp, le_fn, le_opt, le_val, le_elem, le_nil_own, le_nil_vs, leH_ghost, leL_chunk, leXL_id, bnd_int, bnd_bool, bnd_val, bnd_nil, bnd_junk, bnd_vs, bnd_xp, bnd_agg, bnd_tup, bnd_ptr, bnd_own, bnd_elem, bnd_fn, bnd_iface, bnd_opt, bndL_nil, bndL_cons, lenH_cons, lenH_nil, imp_self, implies_true, true_and, and_true] <;> simp
                      intro k hk
                      match k, hk with
                      | 0, _ => exact leXL_self _
                      | 1, _ => exact leXL_self _
                  · rw [Bool.or_eq_false_iff, decide_eq_false_iff_not, Bool.not_eq_false', decide_eq_true_eq] at hc
                    rw [if_neg (by omega)] at e1
                    rw [Bool.or_eq_false_iff, List.isEmpty_eq_false_iff, decide_eq_false_iff_not] at hd
                    rw [if_neg (by rintro (h | h); exact hd.1 h; exact hd.2 h)] at e1
                    refine ⟨d + 1, by omega, by omega, [6], ?_, ?_⟩
                    · dsimp only [go_sem, Option.bind, Option.map, List.append_nil, Nat.beq, List.cons_append, List.nil_append, List.append_eq, List.map_cons, List.map_nil, ite_self, reduceIte]
                      refine ⟨fun k hk => ?_, trivial⟩
                      match k, hk with
                      | 0, _ => rfl
                      | 1, _ => rfl
                    · dsimp only [go_sem, Option.bind, Option.map, List.append_nil, Nat.beq, List.cons_append, List.nil_append, List.append_eq, List.map_cons, List.map_nil, ite_self, reduceIte]
                      simp only [w_succ (i := d) (n := l.length - i) (by omega) (by omega), hid, e1, leS_mk, leL_cons, leL_nil, le_junk, le_int, le_bool, le_nil, leLL_nil, leLL_cons, leH_cons, leH_nil, leH1_box, leH1_own, leH1_gone, le_vs, le_agg, le_tup, le_ptr, le_own, le_xp, le_fn, le_opt, le_val, le_elem, le_nil_own, le_nil_vs, leH_ghost, leL_chunk, leXL_id, bnd_int, bnd_bool, bnd_val, bnd_nil, bnd_junk, bnd_vs, bnd_xp, bnd_agg, bnd_tup, bnd_ptr, bnd_own, bnd_elem, bnd_fn, bnd_iface, bnd_opt, bndL_nil, bndL_cons, lenH_cons, lenH_nil, imp_self, implies_true, true_and, and_true] <;> simp
                · obtain rfl : d = l.length - i := by omega
                  refine ⟨i + 1, by omega, by omega, [], trivial, ?_⟩
                  have e2 : twos (x, y) ⟨per, pr, most⟩ l b0 (i + 1) = row2 (x, y) ⟨per, pr, most⟩ l i (twos (x, y) ⟨per, pr, most⟩ l b0 i) (l.length - i) := rfl
                  rw [hb] at e2
                  dsimp only [go_sem, Option.bind, Option.map, List.append_nil, Nat.beq, List.cons_append, List.nil_append, List.append_eq, List.map_cons, List.map_nil, ite_self, reduceIte]
                  simp only [w_succ (i := i) (n := l.length) (by omega) (by omega), e2, leS_mk, leL_cons, leL_nil, le_junk, le_int, le_bool, le_nil, leLL_nil, leLL_cons, leH_cons, leH_nil, leH1_box, leH1_own, leH1_gone, le_vs, le_agg, le_tup, le_ptr, le_own, le_xp, le_fn, le_opt, le_val, le_elem, le_nil_own, le_nil_vs, leH_ghost, leL_chunk, leXL_id, bnd_int, bnd_bool, bnd_val, bnd_nil, bnd_junk, bnd_vs, bnd_xp, bnd_agg, bnd_tup, bnd_ptr, bnd_own, bnd_elem, bnd_fn, bnd_iface, bnd_opt, bndL_nil, bndL_cons, lenH_cons, lenH_nil, imp_self, implies_true, true_and, and_true] <;> simp
            · obtain rfl : i = l.length := by omega
              exact ans_vsI h
  · exact h.1.elim
end Go.Proofs.YtngccjllkgpjmaaGreat

