/- Fractions, walked: QAdd, QSub, Small. -/
import Derived.Test.YtdognchniaojoaaR5
set_option linter.all false
namespace Go.Proofs.Ytdognchniaojoaa
open Go Go.Vx
set_option maxRecDepth 100000
set_option maxHeartbeats 4000000

def v92 : VF := { ntmps := 69, res := [.cell 4 true 3, .tmp 5], body :=
 (.seq (.region [⟨(some 2), none, .box, [.tm 0]⟩,
  ⟨(some 3), none, .box, [.tm 1]⟩,
  ⟨(some 4), none, (.alloc [(.bool false), .nil, .nil]), []⟩,
  ⟨(some 5), none, .mov, [.cn (.int .i64 0)]⟩])
 (.seq (.region [⟨(some 10), none, (.load true 3), [.tm 2]⟩,
  ⟨(some 11), none, (.load true 3), [.tm 3]⟩,
  ⟨(some 12), none, (.buildSlice 3 2 [(.bool false), .nil, .nil] [(0, 3), (3, 3)]), [.tm 10, .tm 11]⟩,
  ⟨(some 13), none, (.call 69), [.tm 12]⟩,
  ⟨(some 6), none, .mov, [.tm 13]⟩])
 (.seq (.seq (.region [⟨(some 14), none, .mov, [.tm 6]⟩,
  ⟨(some 15), none, (.cmp .neq), [.tm 14, .cn (.int .i64 0)]⟩])
 (.cond (.tm 15) (.seq (.region [⟨(some 16), none, (.build [(.bool false), .nil, .nil] []), []⟩,
  ⟨(some 17), none, .mov, [.tm 6]⟩,
  ⟨none, none, (.store 3), [.tm 4, .tm 16]⟩,
  ⟨(some 5), none, .mov, [.tm 17]⟩])
 .ret)
  .skip))
 (.seq (.draw [] [⟨⟨(some 18), none, (.fieldAddr 1), [.tm 2]⟩, []⟩,
  ⟨⟨(some 19), none, (.load false 1), [.tm 18]⟩, []⟩,
  ⟨⟨(some 20), none, (.fieldAddr 2), [.tm 3]⟩, []⟩,
  ⟨⟨(some 21), none, (.load false 1), [.tm 20]⟩, []⟩,
  ⟨⟨(some 23), none, (.fieldAddr 1), [.tm 3]⟩, []⟩,
  ⟨⟨(some 24), none, (.load false 1), [.tm 23]⟩, []⟩,
  ⟨⟨(some 25), none, (.fieldAddr 2), [.tm 2]⟩, []⟩,
  ⟨⟨(some 26), none, (.load false 1), [.tm 25]⟩, []⟩,
  ⟨⟨(some 28), none, (.fieldAddr 2), [.tm 2]⟩, []⟩,
  ⟨⟨(some 29), none, (.load false 1), [.tm 28]⟩, []⟩,
  ⟨⟨(some 30), none, (.fieldAddr 2), [.tm 3]⟩, []⟩,
  ⟨⟨(some 31), none, (.load false 1), [.tm 30]⟩, []⟩,
  ⟨⟨(some 22), none, (.call 71), [.tm 19, .tm 21]⟩, []⟩,
  ⟨⟨(some 27), none, (.call 71), [.tm 24, .tm 26]⟩, []⟩,
  ⟨⟨(some 32), none, (.call 71), [.tm 29, .tm 31]⟩, []⟩,
  ⟨⟨(some 7), none, .mov, [.tm 22]⟩, []⟩,
  ⟨⟨(some 8), none, .mov, [.tm 27]⟩, []⟩,
  ⟨⟨(some 9), none, .mov, [.tm 32]⟩, []⟩])
 (.seq (.seq (.region [⟨(some 33), none, (.fieldAddr 0), [.tm 2]⟩,
  ⟨(some 34), none, (.load false 1), [.tm 33]⟩,
  ⟨(some 35), none, (.fieldAddr 0), [.tm 3]⟩,
  ⟨(some 36), none, (.load false 1), [.tm 35]⟩,
  ⟨(some 37), none, (.eqb false), [.tm 34, .tm 36]⟩])
 (.cond (.tm 37) (.seq (.draw [] [⟨⟨(some 38), none, (.fieldAddr 0), [.tm 2]⟩, []⟩,
  ⟨⟨(some 39), none, (.load false 1), [.tm 38]⟩, []⟩,
  ⟨⟨(some 40), none, .mov, [.tm 7]⟩, []⟩,
  ⟨⟨(some 41), none, .mov, [.tm 8]⟩, []⟩,
  ⟨⟨(some 43), none, .mov, [.tm 9]⟩, []⟩,
  ⟨⟨(some 42), none, (.call 79), [.tm 40, .tm 41]⟩, []⟩,
  ⟨⟨(some 44), none, (.call 70), [.tm 39, .tm 42, .tm 43]⟩, []⟩,
  ⟨⟨(some 45), none, (.ext 0), [.tm 44]⟩, []⟩,
  ⟨⟨(some 46), none, (.ext 1), [.tm 44]⟩, []⟩,
  ⟨⟨none, none, (.store 3), [.tm 4, .tm 45]⟩, []⟩,
  ⟨⟨(some 5), none, .mov, [.tm 46]⟩, []⟩])
 .ret)
  .skip))
 (.seq (.seq (.region [⟨(some 47), none, .mov, [.tm 7]⟩,
  ⟨(some 48), none, .mov, [.tm 8]⟩,
  ⟨(some 49), none, (.call 58), [.tm 47, .tm 48]⟩,
  ⟨(some 50), none, (.cmp .geq), [.tm 49, .cn (.int .i64 0)]⟩])
 (.cond (.tm 50) (.seq (.draw [] [⟨⟨(some 51), none, (.fieldAddr 0), [.tm 2]⟩, []⟩,
  ⟨⟨(some 52), none, (.load false 1), [.tm 51]⟩, []⟩,
  ⟨⟨(some 53), none, .mov, [.tm 7]⟩, []⟩,
  ⟨⟨(some 54), none, .mov, [.tm 8]⟩, []⟩,
  ⟨⟨(some 56), none, .mov, [.tm 9]⟩, []⟩,
  ⟨⟨(some 55), none, (.call 95), [.tm 53, .tm 54]⟩, []⟩,
  ⟨⟨(some 57), none, (.call 70), [.tm 52, .tm 55, .tm 56]⟩, []⟩,
  ⟨⟨(some 58), none, (.ext 0), [.tm 57]⟩, []⟩,
  ⟨⟨(some 59), none, (.ext 1), [.tm 57]⟩, []⟩,
  ⟨⟨none, none, (.store 3), [.tm 4, .tm 58]⟩, []⟩,
  ⟨⟨(some 5), none, .mov, [.tm 59]⟩, []⟩])
 .ret)
  .skip))
 (.seq (.draw [] [⟨⟨(some 60), none, (.fieldAddr 0), [.tm 3]⟩, []⟩,
  ⟨⟨(some 61), none, (.load false 1), [.tm 60]⟩, []⟩,
  ⟨⟨(some 62), none, .mov, [.tm 8]⟩, []⟩,
  ⟨⟨(some 63), none, .mov, [.tm 7]⟩, []⟩,
  ⟨⟨(some 65), none, .mov, [.tm 9]⟩, []⟩,
  ⟨⟨(some 64), none, (.call 95), [.tm 62, .tm 63]⟩, []⟩,
  ⟨⟨(some 66), none, (.call 70), [.tm 61, .tm 64, .tm 65]⟩, []⟩,
  ⟨⟨(some 67), none, (.ext 0), [.tm 66]⟩, []⟩,
  ⟨⟨(some 68), none, (.ext 1), [.tm 66]⟩, []⟩,
  ⟨⟨none, none, (.store 3), [.tm 4, .tm 67]⟩, []⟩,
  ⟨⟨(some 5), none, .mov, [.tm 68]⟩, []⟩])
 .ret))))))) }
theorem v92_is : vfunc Try.prog Try.f92 = some v92 := by kernel_rfl
def v57 : VF := { ntmps := 24, res := [.tmp 2, .tmp 3], body :=
 (.seq (.region [⟨(some 2), none, .mov, [.cn (.int .u64 0)]⟩,
  ⟨(some 3), none, .mov, [.cn (.int .i64 0)]⟩])
 (.seq (.region [⟨(some 5), none, .mov, [.tm 0]⟩,
  ⟨(some 6), none, (.buildSlice 1 1 [.nil] [(0, 1)]), [.tm 5]⟩,
  ⟨(some 7), none, (.call 76), [.tm 6]⟩,
  ⟨(some 4), none, .mov, [.tm 7]⟩])
 (.seq (.seq (.region [⟨(some 8), none, .mov, [.tm 4]⟩,
  ⟨(some 9), none, (.cmp .eql), [.tm 8, .cn (.int .i64 0)]⟩,
  ⟨(some 10), none, .mov, [.tm 9]⟩,
  ⟨(some 11), (some (10, true)), .mov, [.tm 0]⟩,
  ⟨(some 12), (some (10, true)), .len, [.tm 11]⟩,
  ⟨(some 13), (some (10, true)), (.cmp .gtr), [.tm 12, .cn (.int .i64 2)]⟩,
  ⟨(some 14), none, .and, [.tm 10, .tm 13]⟩])
 (.cond (.tm 14) (.region [⟨(some 4), none, .mov, [.cn (.int .i64 7)]⟩])
  .skip))
 (.seq (.seq (.region [⟨(some 15), none, .mov, [.tm 4]⟩,
  ⟨(some 16), none, (.cmp .neq), [.tm 15, .cn (.int .i64 0)]⟩])
 (.cond (.tm 16) (.seq (.region [⟨(some 17), none, .mov, [.tm 4]⟩,
  ⟨(some 2), none, .mov, [.cn (.int .u64 0)]⟩,
  ⟨(some 3), none, .mov, [.tm 17]⟩])
 .ret)
  .skip))
 (.seq (.region [⟨(some 18), none, .mov, [.tm 0]⟩,
  ⟨(some 19), none, (.call 81), [.tm 18, .cn (.int .i64 1)]⟩,
  ⟨(some 20), none, (.ari .mul), [.tm 19, .cn (.int .u64 4294967296)]⟩,
  ⟨(some 21), none, .mov, [.tm 0]⟩,
  ⟨(some 22), none, (.call 81), [.tm 21, .cn (.int .i64 0)]⟩,
  ⟨(some 23), none, (.ari .add), [.tm 20, .tm 22]⟩,
  ⟨(some 2), none, .mov, [.tm 23]⟩,
  ⟨(some 3), none, .mov, [.cn (.int .i64 0)]⟩])
 .ret))))) }
theorem v57_is : vfunc Try.prog Try.f57 = some v57 := by kernel_rfl
def v76 : VF := { ntmps := 29, res := [.tmp 2], body :=
 (.seq (.region [⟨(some 2), none, .mov, [.cn (.int .i64 0)]⟩])
 (.seq (.seq (.region [⟨(some 3), none, .mov, [.cn (.int .i64 0)]⟩])
 (.block 0 (.loop (.seq (.seq (.region [⟨(some 5), none, .mov, [.tm 3]⟩,
  ⟨(some 6), none, .mov, [.tm 0]⟩,
  ⟨(some 7), none, .len, [.tm 6]⟩,
  ⟨(some 8), none, (.cmp .lss), [.tm 5, .tm 7]⟩])
 (.cond (.tm 8) .skip
  (.exit 0)))
 (.seq (.block 1 (.seq (.region [⟨(some 11), none, .mov, [.tm 0]⟩,
  ⟨(some 12), none, .mov, [.tm 3]⟩,
  ⟨(some 13), none, (.idxAddr 1), [.tm 11, .tm 12]⟩,
  ⟨(some 14), none, (.load false 1), [.tm 13]⟩,
  ⟨(some 15), none, .len, [.tm 14]⟩,
  ⟨(some 16), none, (.cmp .gtr), [.tm 15, .cn (.int .i64 512)]⟩])
 (.cond (.tm 16) (.seq (.region [⟨(some 2), none, .mov, [.cn (.int .i64 3)]⟩])
 .ret)
  .skip)))
 (.region [⟨(some 9), none, .mov, [.tm 3]⟩,
  ⟨(some 10), none, (.ari .add), [.tm 9, .cn (.int .i64 1)]⟩,
  ⟨(some 3), none, .mov, [.tm 10]⟩]))))))
 (.seq (.seq (.region [⟨(some 4), none, .mov, [.cn (.int .i64 0)]⟩])
 (.block 2 (.loop (.seq (.seq (.region [⟨(some 17), none, .mov, [.tm 4]⟩,
  ⟨(some 18), none, .mov, [.tm 0]⟩,
  ⟨(some 19), none, .len, [.tm 18]⟩,
  ⟨(some 20), none, (.cmp .lss), [.tm 17, .tm 19]⟩])
 (.cond (.tm 20) .skip
  (.exit 2)))
 (.seq (.block 3 (.seq (.region [⟨(some 23), none, .mov, [.tm 0]⟩,
  ⟨(some 24), none, .mov, [.tm 4]⟩,
  ⟨(some 25), none, (.idxAddr 1), [.tm 23, .tm 24]⟩,
  ⟨(some 26), none, (.load false 1), [.tm 25]⟩,
  ⟨(some 27), none, (.call 89), [.tm 26]⟩,
  ⟨(some 28), none, .not, [.tm 27]⟩])
 (.cond (.tm 28) (.seq (.region [⟨(some 2), none, .mov, [.cn (.int .i64 2)]⟩])
 .ret)
  .skip)))
 (.region [⟨(some 21), none, .mov, [.tm 4]⟩,
  ⟨(some 22), none, (.ari .add), [.tm 21, .cn (.int .i64 1)]⟩,
  ⟨(some 4), none, .mov, [.tm 22]⟩]))))))
 (.seq (.region [⟨(some 2), none, .mov, [.cn (.int .i64 0)]⟩])
 .ret)))) }
theorem v76_is : vfunc Try.prog Try.f76 = some v76 := by kernel_rfl


theorem nl_add {a b n : Nat} (ha : nl a ≤ n) (hb : nl b ≤ n) : nl (a + b) ≤ n + 1 := by
  rw [nl_le] at *
  rw [pw_succ]; omega
theorem ord_ge {a b : Nat} : 0 ≤ ordN a b ↔ b ≤ a := by unfold ordN; split <;> (try split) <;> omega

def addQ (p q : Fr) : Fr := (p.1 * q.2 + q.1 * p.2, p.2 * q.2)
def qaddC : Ctr := { alias := false, of := fun l => match l with
  | [.agg [.bool neg, .vs _ z1 n1 s1 g1, .vs _ z2 n2 s2 g2], .agg [.bool neg', .vs _ z1' n1' s1' g1', .vs _ z2' n2' s2' g2']] => .ex Fr fun p => .ex Fr fun q =>
      .pre (fracP p neg z1 n1 s1 g1 z2 n2 s2 g2 ∧ fracP q neg' z1' n1' s1' g1' z2' n2' s2' g2' ∧ frOk (addQ p q)) (.fin (.tup [.agg (encF true (addQ p q)), .int .i64 0]) [])
  | _ => noC }
def turnF (p : Fr) : Fr := (-p.1, p.2)
def qsubC : Ctr := { alias := false, of := fun l => match l with
  | [.agg [.bool neg, .vs _ z1 n1 s1 g1, .vs _ z2 n2 s2 g2], .agg [.bool neg', .vs _ z1' n1' s1' g1', .vs _ z2' n2' s2' g2']] => .ex Fr fun p => .ex Fr fun q =>
      .pre (fracP p neg z1 n1 s1 g1 z2 n2 s2 g2 ∧ fracP q neg' z1' n1' s1' g1' z2' n2' s2' g2' ∧ frOk (addQ p (turnF q))) (.fin (.tup [.agg (encF true (addQ p (turnF q))), .int .i64 0]) [])
  | _ => noC }

/-- Lists of numbers. -/
def encN (p : Bool × Nat) : List SV := [natV false p.1 p.2]
def badnC : Ctr := { alias := false, of := fun l => match l with
  | [.vs _ _ n sz get] => .ex (List (Bool × Nat)) fun l => .pre (lsP 1 encN n sz get l ∧ l.length ≤ 1000 ∧ ∀ p ∈ l, nl p.2 ≤ 512) (.fin (.int .i64 0) [])
  | _ => noC }
/-- The least two limbs. -/
def smallC : Ctr := { alias := false, of := fun l => match l with
  | [.vs _ z n sz get] => .ex Nat fun a => .pre (padP a n sz get ∧ n = nl a ∧ n ≤ 512) (.fin (.tup [.int .u64 (if a < 18446744073709551616 then (a : Int) else 0), .int .i64 (if a < 18446744073709551616 then 0 else 7)]) [])
  | _ => noC }

def R7 : Env := { ct := fun n => match n with | 69 => some badqC | 70 => some lowestC | 71 => some timesC | 58 => some orderC | 79 => some plusC | 95 => some minusC | 89 => some validC | _ => none, fn := fun _ => none, meth := fun _ _ => none }
theorem R7_ct69 : R7.ct 69 = some badqC := rfl
theorem R7_ct70 : R7.ct 70 = some lowestC := rfl
theorem R7_ct71 : R7.ct 71 = some timesC := rfl
theorem R7_ct58 : R7.ct 58 = some orderC := rfl
theorem R7_ct79 : R7.ct 79 = some plusC := rfl
theorem R7_ct95 : R7.ct 95 = some minusC := rfl
theorem R7_ct89 : R7.ct 89 = some validC := rfl
theorem R7_ok : EnvOk Try.prog R7 := by
  refine ⟨fun f c h => ?_, fun f vf h => ?_, fun _ _ => rfl, by kernel_rfl⟩
  · simp only [R7] at h
    split at h
    · cases h; exact ⟨badq_ok, Try.f69, Try.func69, by kernel_rfl, by kernel_rfl⟩
    · cases h; exact ⟨lowest_ok, Try.f70, Try.func70, by kernel_rfl, by kernel_rfl⟩
    · cases h; exact ⟨times_ok, Try.f71, Try.func71, by kernel_rfl, by kernel_rfl⟩
    · cases h; exact ⟨order_ok, Try.f58, Try.func58, by kernel_rfl, by kernel_rfl⟩
    · cases h; exact ⟨plus_ok, Try.f79, Try.func79, by kernel_rfl, by kernel_rfl⟩
    · cases h; exact ⟨minus_ok, Try.f95, Try.func95, by kernel_rfl, by kernel_rfl⟩
    · cases h; exact ⟨valid_ok, Try.f89, Try.func89, by kernel_rfl, by kernel_rfl⟩
    · cases h
  · cases h


theorem qadd_ok : qaddC.ok Try.prog 92 := by
  refine contract Try.func92 v92_is R7_ok 300 qaddC fun args k h => ?_
  simp only [qaddC] at h
  split at h
  · rename_i neg t1 z1 n1 s1 g1 t2 z2 n2 s2 g2 neg' t1' z1' n1' s1' g1' t2' z2' n2' s2' g2'
    obtain ⟨p, q, ⟨hpp, hqq, hpq⟩, h⟩ := h
    refine ⟨[.agg (encF false p), .agg (encF false q)], ⟨fr_le hpp, fr_le hqq, trivial⟩, ?_⟩
    have hp := hpp.1
    have hq := hqq.1
    clear hpp hqq
    dsimp only [v92, R7_ct69, R7_ct70, R7_ct71, R7_ct79, R7_ct95, R7_ct58, badqC, lowestC, timesC, plusC, minusC, orderC, natS, natV, encF, r_end, r_end1, r_nil, r_op, r_opg, r_runOp, r_op0, r_yld0, r_yld1, r_y, r_rbeg, r_rend, r_rend1, r_rfrm, r_rfrm1, r_range, r_rangeK, r_rangeE, r_draw, r_dnil, r_dop, r_dopg, r_dplq, r_dplh, r_dq, r_dq0, r_dcl1, r_dcl0, r_dct1, r_dct0, r_dgd, r_dgq1, r_dgq0, r_dctG, r_op1, r_eff, r_eff0, r_call, r_call0, r_inl, r_g, r_gq, r_gc, r_effg, r_effg0, r_callg, r_callg0, r_fin, r_pre, r_imp, r_all, r_ex, r_fing, r_preg, r_exg, r_inBlock, r_inLoop, r_frame, r_frame1, r_skip, r_stuck, r_region, r_seq, r_cond, r_cond1, r_block, r_exit, r_exit1, r_exit2, r_ret, r_loop, s_args0, s_args1, s_xt, s_xc, padL, blankL, callee, callArgs, eff, ctOf, getL, setL, S.put, S.upd, unopts, unopt, unoptsO, unoptsB, lazyO, guardOf, gbool, eMov, eNot, eNeg, eConv, eExt, eLenArr, eLen, eLenStr, eEqb, eEqv, allEq, eNil, negIf, eBool2, eCmp, eAri, ari, eBit, eDiv, eSh, eMinMax, foldMin, foldMax, kEq, pure1, cmpB, VO.quiet, resVals, resVal, tupled, popRet, popTo, cond, Option.bind, Option.map, eNew, eBox, asCells, lenH, snocH, eFieldAddr, eField, eLoad, cellsAt, getH, setH, dropL, takeL, mkAgg, lenL, lenS, shift, shiftL, shiftH, viewN, viewL, view, andT, junks, List.append_nil, Nat.beq, eIdxAddr, eIdxArr, idxN_0, idxN_1, idxN_2, idxN_3, eIndex, eStore, storeAt, spliceL, ones, one, eSlice, eSliceArr, bounds, subLo_z, addLo_z, subLo_one, addLo_one, eMake, eAppend, readS, repL, buildCells, chunk, purgeL, purgeLL, purgeH, purge, refs, refsL, List.cons_append, List.nil_append, wrOps, wrAl, wrDops, wrC, junkAt, putAll, putHs, headOf, headK, keepG, List.append_eq, headX, chkP, apartP, apartB, blk, strip, runAl, AL.ho, yld, putPs, lenN, findR, notRound, jumpK, jumpPT, jcode, List.map_cons, List.map_nil, ite_self, reduceIte]
    simp only [true_and, and_true, imp_self, implies_true, decide_eq_true_eq, decide_eq_false_iff_not, Nat.reduceAdd, Nat.reduceLeDiff, Bool.not_not, reduceCtorEq, false_imp_iff, Bool.not_eq_true', Bool.not_eq_false', Bool.false_eq_true, and_self, forall_const, ne_eq, not_false_eq_true, Nat.reduceEqDiff, decide_true, decide_false, Bool.and_true, Bool.true_and, Bool.and_false, Bool.false_and, Bool.not_true, Bool.not_false, Bool.or_false, Bool.false_or, Bool.or_true, Bool.true_or, Bool.and_self, Bool.or_self, Bool.false_eq_true, Bool.true_eq_false, false_imp_iff, forall_const, true_and, and_true, implies_true, reduceCtorEq, not_true_eq_false, not_false_eq_true, ite_true, ite_false]
    have ⟨hp0, hp1, hp2⟩ := hp
    have ⟨hq0, hq1, hq2⟩ := hq
    refine ⟨by decide, [p, q], ⟨⟨rfl, rfl, fun k hk => match k, hk with | 0, _ => leXL_self _ | 1, _ => leXL_self _⟩, by simp, list2 hp hq⟩, ?_⟩
    have m1 := @nl_mul (rnum p.1 p.2) (rden q.1 q.2)
    have m2 := @nl_mul (rnum q.1 q.2) (rden p.1 p.2)
    have m3 := @nl_mul (rden p.1 p.2) (rden q.1 q.2)
    have hz := q_add hp0 hq0 (n1 := p.1) (n2 := q.1) rfl
    have hdp : 0 < rden p.1 p.2 * rden q.1 q.2 := Nat.mul_pos (rden_pos hp0) (rden_pos hq0)
    have hM : frOk (addM (decide (p.1 < 0)) (decide (q.1 < 0)) (rnum p.1 p.2 * rden q.1 q.2) (rnum q.1 q.2 * rden p.1 p.2), rden p.1 p.2 * rden q.1 q.2) := frOk_eq (q := addQ p q) hz hpq hdp
    have e := encF_eq (t := true) (p := (addM (decide (p.1 < 0)) (decide (q.1 < 0)) (rnum p.1 p.2 * rden q.1 q.2) (rnum q.1 q.2 * rden p.1 p.2), rden p.1 p.2 * rden q.1 q.2)) (q := addQ p q) hz
    have h : k (.tup [.agg (encF true (addQ p q)), .int .i64 0]) [] := h
    rw [← e] at h
    refine ⟨rnum p.1 p.2, rden q.1 q.2, ⟨padP_nl (by omega), padP_nl (by omega), by omega⟩, rnum q.1 q.2, rden p.1 p.2, ⟨padP_nl (by omega), padP_nl (by omega), by omega⟩, rden p.1 p.2, rden q.1 q.2, ⟨padP_nl (by omega), padP_nl (by omega), by omega⟩, fun hs => ?_, fun hs => ?_⟩
    · have m4 := nl_add (Nat.le_trans m1 (by omega : _ ≤ 1024)) (Nat.le_trans m2 (by omega : _ ≤ 1024))
      have es : addM (decide (p.1 < 0)) (decide (q.1 < 0)) (rnum p.1 p.2 * rden q.1 q.2) (rnum q.1 q.2 * rden p.1 p.2) = nsg (decide (p.1 < 0)) (rnum p.1 p.2 * rden q.1 q.2 + rnum q.1 q.2 * rden p.1 p.2) := by
        unfold addM; rw [if_pos (by simpa using hs)]
      rw [es] at h hM
      exact ⟨_, _, ⟨padP_nl (by omega), padP_nl (by omega), by omega, by omega⟩, _, _, ⟨padP_nl (by omega), rfl, padP_nl (by omega), rfl, hdp, by omega, by omega, hM⟩, by decide, by decide, ans_fr h⟩
    · have hne : ¬ decide (p.1 < 0) = decide (q.1 < 0) := by simpa using hs
      refine ⟨_, _, ⟨padP_nl (by omega), padP_nl (by omega)⟩, fun hc => ?_, fun hc => ?_⟩
      · rw [ord_ge] at hc
        have m4 := nl_mono (Nat.sub_le (rnum p.1 p.2 * rden q.1 q.2) (rnum q.1 q.2 * rden p.1 p.2))
        have es : addM (decide (p.1 < 0)) (decide (q.1 < 0)) (rnum p.1 p.2 * rden q.1 q.2) (rnum q.1 q.2 * rden p.1 p.2) = nsg (decide (p.1 < 0)) (rnum p.1 p.2 * rden q.1 q.2 - rnum q.1 q.2 * rden p.1 p.2) := by
          unfold addM; rw [if_neg hne, if_pos hc]
        rw [es] at h hM
        exact ⟨_, _, ⟨padP_nl (by omega), padP_nl (by omega), hc⟩, _, _, ⟨padP_nl (by omega), rfl, padP_nl (by omega), rfl, hdp, by omega, by omega, hM⟩, by decide, by decide, ans_fr h⟩
      · rw [ord_ge] at hc
        have m4 := nl_mono (Nat.sub_le (rnum q.1 q.2 * rden p.1 p.2) (rnum p.1 p.2 * rden q.1 q.2))
        have es : addM (decide (p.1 < 0)) (decide (q.1 < 0)) (rnum p.1 p.2 * rden q.1 q.2) (rnum q.1 q.2 * rden p.1 p.2) = nsg (decide (q.1 < 0)) (rnum q.1 q.2 * rden p.1 p.2 - rnum p.1 p.2 * rden q.1 q.2) := by
          unfold addM; rw [if_neg hne, if_neg hc]
        rw [es] at h hM
        exact ⟨_, _, ⟨padP_nl (by omega), padP_nl (by omega), by omega⟩, _, _, ⟨padP_nl (by omega), rfl, padP_nl (by omega), rfl, hdp, by omega, by omega, hM⟩, by decide, by decide, ans_fr h⟩
  · exact h.1.elim
theorem turn_eq {p : Fr} (hp : 0 < p.2) : rnum (turnF p).1 (turnF p).2 = rnum p.1 p.2 ∧ rden (turnF p).1 (turnF p).2 = rden p.1 p.2 ∧ (!decide (p.1 < 0) && decide (0 < (nl (rnum p.1 p.2) : Int))) = decide ((turnF p).1 < 0) := by
  have e : (turnF p).1.natAbs = p.1.natAbs := Int.natAbs_neg _
  refine ⟨by unfold rnum fg; rw [e]; rfl, by unfold rden fg; rw [e]; rfl, ?_⟩
  have h1 := rnum_0 (n := p.1) hp
  have h2 := nl_eq0 (a := rnum p.1 p.2)
  have h3 : (turnF p).1 = -p.1 := rfl
  rw [h3, Bool.eq_iff_iff, Bool.and_eq_true, Bool.not_eq_true', decide_eq_false_iff_not, decide_eq_true_eq, decide_eq_true_eq]
  omega
theorem turn_ok {p : Fr} (h : frOk p) : frOk (turnF p) := ⟨h.1, by rw [(turn_eq h.1).1]; exact h.2.1, by rw [(turn_eq h.1).2.1]; exact h.2.2⟩

theorem bad_ok : badnC.ok Try.prog 76 := by
  refine contract Try.func76 v76_is R7_ok 300 badnC fun args k h => ?_
  simp only [badnC] at h
  split at h
  · rename_i tt z n sz get
    obtain ⟨l, ⟨⟨rfl, rfl, hg⟩, hmax, hok⟩, h⟩ := h
    refine ⟨[.vs tt z l.length 1 (fun k => encN (l.getD k default))], by simpa [leL, le] using hg, ?_⟩
    dsimp only [v76, r_end, r_end1, r_nil, r_op, r_opg, r_runOp, r_op0, r_yld0, r_yld1, r_y, r_rbeg, r_rend, r_rend1, r_rfrm, r_rfrm1, r_range, r_rangeK, r_rangeE, r_draw, r_dnil, r_dop, r_dopg, r_dplq, r_dplh, r_dq, r_dq0, r_dcl1, r_dcl0, r_dct1, r_dct0, r_dgd, r_dgq1, r_dgq0, r_dctG, r_op1, r_eff, r_eff0, r_call, r_call0, r_inl, r_g, r_gq, r_gc, r_effg, r_effg0, r_callg, r_callg0, r_fin, r_pre, r_imp, r_all, r_ex, r_fing, r_preg, r_exg, r_inBlock, r_inLoop, r_frame, r_frame1, r_skip, r_stuck, r_region, r_seq, r_cond, r_cond1, r_block, r_exit, r_exit1, r_exit2, r_ret, r_loop, s_args0, s_args1, s_xt, s_xc, padL, blankL, callee, callArgs, eff, ctOf, getL, setL, S.put, S.upd, unopts, unopt, unoptsO, unoptsB, lazyO, guardOf, gbool, eMov, eNot, eNeg, eConv, eExt, eLenArr, eLen, eLenStr, eEqb, eEqv, allEq, eNil, negIf, eBool2, eCmp, eAri, ari, eBit, eDiv, eSh, eMinMax, foldMin, foldMax, kEq, pure1, cmpB, VO.quiet, resVals, resVal, tupled, popRet, popTo, cond, Option.bind, Option.map, eNew, eBox, asCells, lenH, snocH, eFieldAddr, eField, eLoad, cellsAt, getH, setH, dropL, takeL, mkAgg, lenL, lenS, shift, shiftL, shiftH, viewN, viewL, view, andT, junks, List.append_nil, Nat.beq, eIdxAddr, eIdxArr, idxN_0, idxN_1, idxN_2, idxN_3, eIndex, eStore, storeAt, spliceL, ones, one, eSlice, eSliceArr, bounds, subLo_z, addLo_z, subLo_one, addLo_one, eMake, eAppend, readS, repL, buildCells, chunk, purgeL, purgeLL, purgeH, purge, refs, refsL, List.cons_append, List.nil_append, wrOps, wrAl, wrDops, wrC, junkAt, putAll, putHs, headOf, headK, keepG, List.append_eq, headX, chkP, apartP, apartB, blk, strip, runAl, AL.ho, yld, putPs, lenN, findR, notRound, jumpK, jumpPT, jcode, List.map_cons, List.map_nil, ite_self, reduceIte]
    simp only [true_and, and_true, imp_self, implies_true, decide_eq_true_eq, decide_eq_false_iff_not, Nat.reduceAdd, Nat.reduceLeDiff, Bool.not_not, reduceCtorEq, false_imp_iff, Bool.not_eq_true', Bool.not_eq_false', Bool.false_eq_true, and_self, forall_const, ne_eq, not_false_eq_true, Nat.reduceEqDiff]
    refine Loop.keep [0, 2] Nat (fun i => [(3, .int .i64 i)]) (fun _ => []) [] (fun i => i ≤ l.length) (fun i => l.length - i) ?_ ?_
    · refine ⟨0, by omega, ?_⟩
      dsimp only [r_end, r_end1, r_nil, r_op, r_opg, r_runOp, r_op0, r_yld0, r_yld1, r_y, r_rbeg, r_rend, r_rend1, r_rfrm, r_rfrm1, r_range, r_rangeK, r_rangeE, r_draw, r_dnil, r_dop, r_dopg, r_dplq, r_dplh, r_dq, r_dq0, r_dcl1, r_dcl0, r_dct1, r_dct0, r_dgd, r_dgq1, r_dgq0, r_dctG, r_op1, r_eff, r_eff0, r_call, r_call0, r_inl, r_g, r_gq, r_gc, r_effg, r_effg0, r_callg, r_callg0, r_fin, r_pre, r_imp, r_all, r_ex, r_fing, r_preg, r_exg, r_inBlock, r_inLoop, r_frame, r_frame1, r_skip, r_stuck, r_region, r_seq, r_cond, r_cond1, r_block, r_exit, r_exit1, r_exit2, r_ret, r_loop, s_args0, s_args1, s_xt, s_xc, padL, blankL, callee, callArgs, eff, ctOf, getL, setL, S.put, S.upd, unopts, unopt, unoptsO, unoptsB, lazyO, guardOf, gbool, eMov, eNot, eNeg, eConv, eExt, eLenArr, eLen, eLenStr, eEqb, eEqv, allEq, eNil, negIf, eBool2, eCmp, eAri, ari, eBit, eDiv, eSh, eMinMax, foldMin, foldMax, kEq, pure1, cmpB, VO.quiet, resVals, resVal, tupled, popRet, popTo, cond, Option.bind, Option.map, eNew, eBox, asCells, lenH, snocH, eFieldAddr, eField, eLoad, cellsAt, getH, setH, dropL, takeL, mkAgg, lenL, lenS, shift, shiftL, shiftH, viewN, viewL, view, andT, junks, List.append_nil, Nat.beq, eIdxAddr, eIdxArr, idxN_0, idxN_1, idxN_2, idxN_3, eIndex, eStore, storeAt, spliceL, ones, one, eSlice, eSliceArr, bounds, subLo_z, addLo_z, subLo_one, addLo_one, eMake, eAppend, readS, repL, buildCells, chunk, purgeL, purgeLL, purgeH, purge, refs, refsL, List.cons_append, List.nil_append, wrOps, wrAl, wrDops, wrC, junkAt, putAll, putHs, headOf, headK, keepG, List.append_eq, headX, chkP, apartP, apartB, blk, strip, runAl, AL.ho, yld, putPs, lenN, findR, notRound, jumpK, jumpPT, jcode, List.map_cons, List.map_nil, ite_self, reduceIte]
      simp only [leS_mk, leL_cons, leL_nil, le_junk, le_int, le_bool, le_nil, leLL_nil, leLL_cons, leH_cons, leH_nil, leH1_box, leH1_own, leH1_gone, le_vs, le_agg, le_tup, le_ptr, le_own, le_xp, le_fn, le_opt, le_val, le_elem, le_nil_own, le_nil_vs, leH_ghost, leL_chunk, leXL_id, bnd_int, bnd_bool, bnd_val, bnd_nil, bnd_junk, bnd_vs, bnd_xp, bnd_agg, bnd_tup, bnd_ptr, bnd_own, bnd_elem, bnd_fn, bnd_iface, bnd_opt, bndL_nil, bndL_cons, lenH_cons, lenH_nil, imp_self, implies_true, true_and, and_true] <;> simp
    · rintro i hi
      dsimp only [encN, natV, Int.toNat_natCast, r_end, r_end1, r_nil, r_op, r_opg, r_runOp, r_op0, r_yld0, r_yld1, r_y, r_rbeg, r_rend, r_rend1, r_rfrm, r_rfrm1, r_range, r_rangeK, r_rangeE, r_draw, r_dnil, r_dop, r_dopg, r_dplq, r_dplh, r_dq, r_dq0, r_dcl1, r_dcl0, r_dct1, r_dct0, r_dgd, r_dgq1, r_dgq0, r_dctG, r_op1, r_eff, r_eff0, r_call, r_call0, r_inl, r_g, r_gq, r_gc, r_effg, r_effg0, r_callg, r_callg0, r_fin, r_pre, r_imp, r_all, r_ex, r_fing, r_preg, r_exg, r_inBlock, r_inLoop, r_frame, r_frame1, r_skip, r_stuck, r_region, r_seq, r_cond, r_cond1, r_block, r_exit, r_exit1, r_exit2, r_ret, r_loop, s_args0, s_args1, s_xt, s_xc, padL, blankL, callee, callArgs, eff, ctOf, getL, setL, S.put, S.upd, unopts, unopt, unoptsO, unoptsB, lazyO, guardOf, gbool, eMov, eNot, eNeg, eConv, eExt, eLenArr, eLen, eLenStr, eEqb, eEqv, allEq, eNil, negIf, eBool2, eCmp, eAri, ari, eBit, eDiv, eSh, eMinMax, foldMin, foldMax, kEq, pure1, cmpB, VO.quiet, resVals, resVal, tupled, popRet, popTo, cond, Option.bind, Option.map, eNew, eBox, asCells, lenH, snocH, eFieldAddr, eField, eLoad, cellsAt, getH, setH, dropL, takeL, mkAgg, lenL, lenS, shift, shiftL, shiftH, viewN, viewL, view, andT, junks, List.append_nil, Nat.beq, eIdxAddr, eIdxArr, idxN_0, idxN_1, idxN_2, idxN_3, eIndex, eStore, storeAt, spliceL, ones, one, eSlice, eSliceArr, bounds, subLo_z, addLo_z, subLo_one, addLo_one, eMake, eAppend, readS, repL, buildCells, chunk, purgeL, purgeLL, purgeH, purge, refs, refsL, List.cons_append, List.nil_append, wrOps, wrAl, wrDops, wrC, junkAt, putAll, putHs, headOf, headK, keepG, List.append_eq, headX, chkP, apartP, apartB, blk, strip, runAl, AL.ho, yld, putPs, lenN, findR, notRound, jumpK, jumpPT, jcode, List.map_cons, List.map_nil, ite_self, reduceIte]
      simp only [true_and, and_true, imp_self, implies_true, decide_eq_true_eq, decide_eq_false_iff_not, Nat.reduceAdd, Nat.reduceLeDiff, Bool.not_not, reduceCtorEq, false_imp_iff, Bool.not_eq_true', Bool.not_eq_false', Bool.false_eq_true, and_self, forall_const, ne_eq, not_false_eq_true, Nat.reduceEqDiff]
      refine ⟨fun hlt => ?_, fun hge => ?_⟩
      · have hl1 := hok _ (getD_mem (by omega : i < l.length))
        refine ⟨⟨by omega, by omega⟩, fun hb => by omega, fun _ => ⟨i + 1, by omega, by omega, ?_⟩⟩
        rw [w_succ (n := l.length) (by omega) (by omega)]
        simp only [leS_mk, leL_cons, leL_nil, le_junk, le_int, le_bool, le_nil, leLL_nil, leLL_cons, leH_cons, leH_nil, leH1_box, leH1_own, leH1_gone, le_vs, le_agg, le_tup, le_ptr, le_own, le_xp, le_fn, le_opt, le_val, le_elem, le_nil_own, le_nil_vs, leH_ghost, leL_chunk, leXL_id, bnd_int, bnd_bool, bnd_val, bnd_nil, bnd_junk, bnd_vs, bnd_xp, bnd_agg, bnd_tup, bnd_ptr, bnd_own, bnd_elem, bnd_fn, bnd_iface, bnd_opt, bndL_nil, bndL_cons, lenH_cons, lenH_nil, imp_self, implies_true, true_and, and_true] <;> simp
      · refine Loop.keep [0, 3] Nat (fun i => [(4, .int .i64 i)]) (fun _ => []) [] (fun i => i ≤ l.length) (fun i => l.length - i) ?_ ?_
        · refine ⟨0, by omega, ?_⟩
          dsimp only [r_end, r_end1, r_nil, r_op, r_opg, r_runOp, r_op0, r_yld0, r_yld1, r_y, r_rbeg, r_rend, r_rend1, r_rfrm, r_rfrm1, r_range, r_rangeK, r_rangeE, r_draw, r_dnil, r_dop, r_dopg, r_dplq, r_dplh, r_dq, r_dq0, r_dcl1, r_dcl0, r_dct1, r_dct0, r_dgd, r_dgq1, r_dgq0, r_dctG, r_op1, r_eff, r_eff0, r_call, r_call0, r_inl, r_g, r_gq, r_gc, r_effg, r_effg0, r_callg, r_callg0, r_fin, r_pre, r_imp, r_all, r_ex, r_fing, r_preg, r_exg, r_inBlock, r_inLoop, r_frame, r_frame1, r_skip, r_stuck, r_region, r_seq, r_cond, r_cond1, r_block, r_exit, r_exit1, r_exit2, r_ret, r_loop, s_args0, s_args1, s_xt, s_xc, padL, blankL, callee, callArgs, eff, ctOf, getL, setL, S.put, S.upd, unopts, unopt, unoptsO, unoptsB, lazyO, guardOf, gbool, eMov, eNot, eNeg, eConv, eExt, eLenArr, eLen, eLenStr, eEqb, eEqv, allEq, eNil, negIf, eBool2, eCmp, eAri, ari, eBit, eDiv, eSh, eMinMax, foldMin, foldMax, kEq, pure1, cmpB, VO.quiet, resVals, resVal, tupled, popRet, popTo, cond, Option.bind, Option.map, eNew, eBox, asCells, lenH, snocH, eFieldAddr, eField, eLoad, cellsAt, getH, setH, dropL, takeL, mkAgg, lenL, lenS, shift, shiftL, shiftH, viewN, viewL, view, andT, junks, List.append_nil, Nat.beq, eIdxAddr, eIdxArr, idxN_0, idxN_1, idxN_2, idxN_3, eIndex, eStore, storeAt, spliceL, ones, one, eSlice, eSliceArr, bounds, subLo_z, addLo_z, subLo_one, addLo_one, eMake, eAppend, readS, repL, buildCells, chunk, purgeL, purgeLL, purgeH, purge, refs, refsL, List.cons_append, List.nil_append, wrOps, wrAl, wrDops, wrC, junkAt, putAll, putHs, headOf, headK, keepG, List.append_eq, headX, chkP, apartP, apartB, blk, strip, runAl, AL.ho, yld, putPs, lenN, findR, notRound, jumpK, jumpPT, jcode, List.map_cons, List.map_nil, ite_self, reduceIte]
          simp only [leS_mk, leL_cons, leL_nil, le_junk, le_int, le_bool, le_nil, leLL_nil, leLL_cons, leH_cons, leH_nil, leH1_box, leH1_own, leH1_gone, le_vs, le_agg, le_tup, le_ptr, le_own, le_xp, le_fn, le_opt, le_val, le_elem, le_nil_own, le_nil_vs, leH_ghost, leL_chunk, leXL_id, bnd_int, bnd_bool, bnd_val, bnd_nil, bnd_junk, bnd_vs, bnd_xp, bnd_agg, bnd_tup, bnd_ptr, bnd_own, bnd_elem, bnd_fn, bnd_iface, bnd_opt, bndL_nil, bndL_cons, lenH_cons, lenH_nil, imp_self, implies_true, true_and, and_true] <;> simp
        · rintro i hi
          dsimp only [R7_ct89, validC, encN, natV, Int.toNat_natCast, r_end, r_end1, r_nil, r_op, r_opg, r_runOp, r_op0, r_yld0, r_yld1, r_y, r_rbeg, r_rend, r_rend1, r_rfrm, r_rfrm1, r_range, r_rangeK, r_rangeE, r_draw, r_dnil, r_dop, r_dopg, r_dplq, r_dplh, r_dq, r_dq0, r_dcl1, r_dcl0, r_dct1, r_dct0, r_dgd, r_dgq1, r_dgq0, r_dctG, r_op1, r_eff, r_eff0, r_call, r_call0, r_inl, r_g, r_gq, r_gc, r_effg, r_effg0, r_callg, r_callg0, r_fin, r_pre, r_imp, r_all, r_ex, r_fing, r_preg, r_exg, r_inBlock, r_inLoop, r_frame, r_frame1, r_skip, r_stuck, r_region, r_seq, r_cond, r_cond1, r_block, r_exit, r_exit1, r_exit2, r_ret, r_loop, s_args0, s_args1, s_xt, s_xc, padL, blankL, callee, callArgs, eff, ctOf, getL, setL, S.put, S.upd, unopts, unopt, unoptsO, unoptsB, lazyO, guardOf, gbool, eMov, eNot, eNeg, eConv, eExt, eLenArr, eLen, eLenStr, eEqb, eEqv, allEq, eNil, negIf, eBool2, eCmp, eAri, ari, eBit, eDiv, eSh, eMinMax, foldMin, foldMax, kEq, pure1, cmpB, VO.quiet, resVals, resVal, tupled, popRet, popTo, cond, Option.bind, Option.map, eNew, eBox, asCells, lenH, snocH, eFieldAddr, eField, eLoad, cellsAt, getH, setH, dropL, takeL, mkAgg, lenL, lenS, shift, shiftL, shiftH, viewN, viewL, view, andT, junks, List.append_nil, Nat.beq, eIdxAddr, eIdxArr, idxN_0, idxN_1, idxN_2, idxN_3, eIndex, eStore, storeAt, spliceL, ones, one, eSlice, eSliceArr, bounds, subLo_z, addLo_z, subLo_one, addLo_one, eMake, eAppend, readS, repL, buildCells, chunk, purgeL, purgeLL, purgeH, purge, refs, refsL, List.cons_append, List.nil_append, wrOps, wrAl, wrDops, wrC, junkAt, putAll, putHs, headOf, headK, keepG, List.append_eq, headX, chkP, apartP, apartB, blk, strip, runAl, AL.ho, yld, putPs, lenN, findR, notRound, jumpK, jumpPT, jcode, List.map_cons, List.map_nil, ite_self, reduceIte]
          simp only [true_and, and_true, imp_self, implies_true, decide_eq_true_eq, decide_eq_false_iff_not, Nat.reduceAdd, Nat.reduceLeDiff, Bool.not_not, reduceCtorEq, false_imp_iff, Bool.not_eq_true', Bool.not_eq_false', Bool.false_eq_true, and_self, forall_const, ne_eq, not_false_eq_true, Nat.reduceEqDiff]
          refine ⟨fun hlt => ?_, fun hge => ans_int h⟩
          have hl1 := hok _ (getD_mem (by omega : i < l.length))
          refine ⟨⟨by omega, by omega⟩, (l.getD i default).2, padP_nl (by omega), fun hb => ?_, fun _ => ⟨i + 1, by omega, by omega, ?_⟩⟩
          · rw [decide_eq_true hl1] at hb; simp at hb
          · rw [w_succ (n := l.length) (by omega) (by omega)]
            simp only [leS_mk, leL_cons, leL_nil, le_junk, le_int, le_bool, le_nil, leLL_nil, leLL_cons, leH_cons, leH_nil, leH1_box, leH1_own, leH1_gone, le_vs, le_agg, le_tup, le_ptr, le_own, le_xp, le_fn, le_opt, le_val, le_elem, le_nil_own, le_nil_vs, leH_ghost, leL_chunk, leXL_id, bnd_int, bnd_bool, bnd_val, bnd_nil, bnd_junk, bnd_vs, bnd_xp, bnd_agg, bnd_tup, bnd_ptr, bnd_own, bnd_elem, bnd_fn, bnd_iface, bnd_opt, bndL_nil, bndL_cons, lenH_cons, lenH_nil, imp_self, implies_true, true_and, and_true] <;> simp
  · exact h.1.elim

def R8 : Env := { ct := fun n => match n with | 76 => some badnC | 81 => some limbC | _ => none, fn := fun _ => none, meth := fun _ _ => none }
theorem R8_ct76 : R8.ct 76 = some badnC := rfl
theorem R8_ct81 : R8.ct 81 = some limbC := rfl
theorem R8_ok : EnvOk Try.prog R8 := by
  refine ⟨fun f c h => ?_, fun f vf h => ?_, fun _ _ => rfl, by kernel_rfl⟩
  · simp only [R8] at h
    split at h
    · cases h; exact ⟨bad_ok, Try.f76, Try.func76, by kernel_rfl, by kernel_rfl⟩
    · cases h; exact ⟨limb_ok, Try.f81, Try.func81, by kernel_rfl, by kernel_rfl⟩
    · cases h
  · cases h


theorem small_ok : smallC.ok Try.prog 57 := by
  refine contract Try.func57 v57_is R8_ok 300 smallC fun args k h => ?_
  simp only [smallC] at h
  split at h
  · rename_i t1 z1 n sz get
    obtain ⟨a, ⟨⟨rfl, hn, ha, hg⟩, rfl, hn5⟩, h⟩ := h
    refine ⟨[.vs t1 z1 (nl a) 1 (fun k => [.int .u32 (dig a k)])], by simpa [leL, le] using hg, ?_⟩
    dsimp only [v57, R8_ct76, badnC, R8_ct81, limbC, r_end, r_end1, r_nil, r_op, r_opg, r_runOp, r_op0, r_yld0, r_yld1, r_y, r_rbeg, r_rend, r_rend1, r_rfrm, r_rfrm1, r_range, r_rangeK, r_rangeE, r_draw, r_dnil, r_dop, r_dopg, r_dplq, r_dplh, r_dq, r_dq0, r_dcl1, r_dcl0, r_dct1, r_dct0, r_dgd, r_dgq1, r_dgq0, r_dctG, r_op1, r_eff, r_eff0, r_call, r_call0, r_inl, r_g, r_gq, r_gc, r_effg, r_effg0, r_callg, r_callg0, r_fin, r_pre, r_imp, r_all, r_ex, r_fing, r_preg, r_exg, r_inBlock, r_inLoop, r_frame, r_frame1, r_skip, r_stuck, r_region, r_seq, r_cond, r_cond1, r_block, r_exit, r_exit1, r_exit2, r_ret, r_loop, s_args0, s_args1, s_xt, s_xc, padL, blankL, callee, callArgs, eff, ctOf, getL, setL, S.put, S.upd, unopts, unopt, unoptsO, unoptsB, lazyO, guardOf, gbool, eMov, eNot, eNeg, eConv, eExt, eLenArr, eLen, eLenStr, eEqb, eEqv, allEq, eNil, negIf, eBool2, eCmp, eAri, ari, eBit, eDiv, eSh, eMinMax, foldMin, foldMax, kEq, pure1, cmpB, VO.quiet, resVals, resVal, tupled, popRet, popTo, cond, Option.bind, Option.map, eNew, eBox, asCells, lenH, snocH, eFieldAddr, eField, eLoad, cellsAt, getH, setH, dropL, takeL, mkAgg, lenL, lenS, shift, shiftL, shiftH, viewN, viewL, view, andT, junks, List.append_nil, Nat.beq, eIdxAddr, eIdxArr, idxN_0, idxN_1, idxN_2, idxN_3, eIndex, eStore, storeAt, spliceL, ones, one, eSlice, eSliceArr, bounds, subLo_z, addLo_z, subLo_one, addLo_one, eMake, eAppend, readS, repL, buildCells, chunk, purgeL, purgeLL, purgeH, purge, refs, refsL, List.cons_append, List.nil_append, wrOps, wrAl, wrDops, wrC, junkAt, putAll, putHs, headOf, headK, keepG, List.append_eq, headX, chkP, apartP, apartB, blk, strip, runAl, AL.ho, yld, putPs, lenN, findR, notRound, jumpK, jumpPT, jcode, List.map_cons, List.map_nil, ite_self, reduceIte]
    simp only [true_and, and_true, imp_self, implies_true, decide_eq_true_eq, decide_eq_false_iff_not, Nat.reduceAdd, Nat.reduceLeDiff, Bool.not_not, reduceCtorEq, false_imp_iff, Bool.not_eq_true', Bool.not_eq_false', Bool.false_eq_true, and_self, forall_const, ne_eq, not_false_eq_true, Nat.reduceEqDiff, decide_true, decide_false, Bool.and_true, Bool.true_and, Bool.and_false, Bool.false_and, Bool.not_true, Bool.not_false, Bool.or_false, Bool.false_or, Bool.or_true, Bool.true_or, Bool.and_self, Bool.or_self, Bool.false_eq_true, Bool.true_eq_false, false_imp_iff, forall_const, true_and, and_true, implies_true, reduceCtorEq, not_true_eq_false, not_false_eq_true, ite_true, ite_false]
    have h2 : nl a ≤ 2 ↔ a < 18446744073709551616 := nl_le (n := 2)
    refine ⟨by decide, [(z1, a)], ⟨⟨rfl, rfl, fun k hk => match k, hk with | 0, _ => leXL_self _⟩, by simp, by simp; exact hn5⟩, fun hc => ⟨fun _ => ?_, (fun hh => by omega)⟩, fun hc => ?_⟩
    · rw [if_neg (by omega), if_neg (by omega)] at h
      exact ans_ii h
    · rw [if_pos (by omega), if_pos (by omega)] at h
      refine ⟨a, ⟨padP_nl (by omega), by decide⟩, a, ⟨padP_nl (by omega), by decide⟩, ?_⟩
      have e0 : dig a (Int.toNat 0) = a % 4294967296 := dig_0 a
      have e1 : dig a (Int.toNat 1) = a / 4294967296 := by
        show dig a 1 = _
        rw [dig_succ, dig_0]; omega
      have e2 : IntKind.u64.wrap (IntKind.u64.wrap (((dig a (Int.toNat 1) : Nat) : Int) * 4294967296) + ((dig a (Int.toNat 0) : Nat) : Int)) = (a : Int) := by
        rw [e0, e1, IntWalk.u64_in (((a / 4294967296 : Nat) : Int) * 4294967296) (by omega), IntWalk.u64_in _ (by omega)]; omega
      rw [e2]
      exact ans_ii h
  · exact h.1.elim
end Go.Proofs.Ytdognchniaojoaa
