/- Bellows: Lasts. -/
import Derived.Test.YtliipeebknljdaaW4
set_option linter.all false
namespace Go.Proofs.Ytliipeebknljdaa
open Go Go.Vx
set_option maxRecDepth 100000
set_option maxHeartbeats 4000000

def v36 : VF := { ntmps := 30, res := [.tmp 4, .tmp 5], body :=
 (.seq (.region [⟨(some 2), none, .box, [.tm 0]⟩,
  ⟨(some 4), none, .mov, [.cn (.int .i64 0)]⟩,
  ⟨(some 5), none, .mov, [.cn (.bool false)]⟩])
 (.seq (.seq (.region [⟨(some 9), none, (.fieldAddr 5), [.tm 2]⟩,
  ⟨(some 10), none, (.load false 1), [.tm 9]⟩,
  ⟨(some 11), none, .mov, [.tm 1]⟩,
  ⟨(some 12), none, (.cmp .geq), [.tm 10, .tm 11]⟩])
 (.cond (.tm 12) (.seq (.region [⟨(some 4), none, .mov, [.cn (.int .i64 (-1))]⟩,
  ⟨(some 5), none, .mov, [.cn (.bool true)]⟩])
 .ret)
  .skip))
 (.seq (.region [⟨(some 13), none, (.fieldAddr 0), [.tm 2]⟩,
  ⟨(some 14), none, (.fieldAddr 0), [.tm 13]⟩,
  ⟨(some 15), none, (.load false 1), [.tm 14]⟩,
  ⟨(some 6), none, .mov, [.tm 15]⟩])
 (.seq (.seq (.region [⟨(some 16), none, .mov, [.cn (.int .i64 0)]⟩])
 (.block 0 (.loop (.seq (.region [⟨(some 17), none, (.cmp .lss), [.tm 16, .cn (.int .i64 1000001)]⟩])
 (.seq (.cond (.tm 17) .skip
  (.exit 0))
 (.seq (.block 1 (.seq (.region [⟨(some 18), none, .mov, [.tm 16]⟩,
  ⟨(some 7), none, .mov, [.tm 18]⟩])
 (.seq (.region [⟨(some 19), none, (.load true 7), [.tm 2]⟩,
  ⟨(some 20), none, .mov, [.tm 6]⟩,
  ⟨(some 21), none, (.call 32), [.tm 19, .tm 20]⟩,
  ⟨(some 8), none, .mov, [.tm 21]⟩])
 (.seq (.seq (.region [⟨(some 22), none, .mov, [.tm 8]⟩,
  ⟨(some 23), none, .mov, [.tm 1]⟩,
  ⟨(some 24), none, (.cmp .lss), [.tm 22, .tm 23]⟩])
 (.cond (.tm 24) (.seq (.region [⟨(some 25), none, .mov, [.tm 7]⟩,
  ⟨(some 4), none, .mov, [.tm 25]⟩,
  ⟨(some 5), none, .mov, [.cn (.bool true)]⟩])
 .ret)
  .skip))
 (.region [⟨(some 26), none, .mov, [.tm 8]⟩,
  ⟨(some 27), none, .mov, [.tm 1]⟩,
  ⟨(some 28), none, (.ari .sub), [.tm 26, .tm 27]⟩,
  ⟨(some 6), none, .mov, [.tm 28]⟩])))))
 (.region [⟨(some 29), none, (.ari .add), [.tm 16, .cn (.int .i64 1)]⟩,
  ⟨(some 16), none, .mov, [.tm 29]⟩])))))))
 (.seq (.region [⟨(some 4), none, .mov, [.cn (.int .i64 0)]⟩,
  ⟨(some 5), none, .mov, [.cn (.bool false)]⟩])
 .ret))))) }
theorem v36_is : vfunc Try.prog Try.f36 = some v36 := by kernel_rfl
def v37 : VF := { ntmps := 36, res := [.tmp 6, .tmp 7], body :=
 (.seq (.region [⟨(some 3), none, .box, [.tm 0]⟩,
  ⟨(some 6), none, .mov, [.cn (.int .i64 0)]⟩,
  ⟨(some 7), none, .mov, [.cn (.bool false)]⟩])
 (.seq (.seq (.region [⟨(some 11), none, .mov, [.tm 1]⟩,
  ⟨(some 12), none, .mov, [.tm 2]⟩,
  ⟨(some 13), none, (.cmp .geq), [.tm 11, .tm 12]⟩])
 (.cond (.tm 13) (.seq (.region [⟨(some 6), none, .mov, [.cn (.int .i64 (-1))]⟩,
  ⟨(some 7), none, .mov, [.cn (.bool true)]⟩])
 .ret)
  .skip))
 (.seq (.region [⟨(some 14), none, (.fieldAddr 0), [.tm 3]⟩,
  ⟨(some 15), none, (.load false 1), [.tm 14]⟩,
  ⟨(some 8), none, .mov, [.tm 15]⟩,
  ⟨(some 9), none, .mov, [.cn (.bool false)]⟩])
 (.seq (.region [⟨(some 10), none, .mov, [.cn (.int .i64 (-1))]⟩])
 (.seq (.block 0 (.loop (.seq (.seq (.region [⟨(some 16), none, .mov, [.tm 9]⟩,
  ⟨(some 17), none, .not, [.tm 16]⟩,
  ⟨(some 18), none, .mov, [.tm 17]⟩,
  ⟨(some 19), (some (18, true)), .mov, [.tm 10]⟩,
  ⟨(some 20), (some (18, true)), (.cmp .leq), [.tm 19, .cn (.int .i64 1000000)]⟩,
  ⟨(some 21), none, .and, [.tm 18, .tm 20]⟩])
 (.cond (.tm 21) .skip
  (.exit 0)))
 (.block 1 (.seq (.region [⟨(some 23), none, (.load true 5), [.tm 3]⟩,
  ⟨(some 24), none, .mov, [.tm 8]⟩,
  ⟨(some 25), none, .mov, [.tm 1]⟩,
  ⟨(some 26), none, .mov, [.tm 2]⟩,
  ⟨(some 27), none, (.call 23), [.tm 23, .tm 24, .tm 25, .tm 26]⟩,
  ⟨(some 22), none, .mov, [.tm 27]⟩,
  ⟨(some 28), none, (.ext 0), [.tm 22]⟩,
  ⟨(some 29), none, (.ext 1), [.tm 22]⟩,
  ⟨(some 30), none, (.ext 2), [.tm 22]⟩,
  ⟨(some 8), none, .mov, [.tm 28]⟩,
  ⟨(some 9), none, .mov, [.tm 30]⟩])
 (.region [⟨(some 31), none, .mov, [.tm 10]⟩,
  ⟨(some 32), none, (.ari .add), [.tm 31, .cn (.int .i64 1)]⟩,
  ⟨(some 10), none, .mov, [.tm 32]⟩]))))))
 (.seq (.region [⟨(some 33), none, .mov, [.tm 10]⟩,
  ⟨(some 34), none, .mov, [.tm 10]⟩,
  ⟨(some 35), none, (.cmp .leq), [.tm 34, .cn (.int .i64 1000000)]⟩,
  ⟨(some 6), none, .mov, [.tm 33]⟩,
  ⟨(some 7), none, .mov, [.tm 35]⟩])
 .ret)))))) }
theorem v37_is : vfunc Try.prog Try.f37 = some v37 := by kernel_rfl
def v19 : VF := { ntmps := 44, res := [.tmp 4, .tmp 5, .tmp 6], body :=
 (.seq (.region [⟨(some 2), none, .box, [.tm 0]⟩,
  ⟨(some 4), none, .mov, [.cn (.int .i64 0)]⟩,
  ⟨(some 5), none, .mov, [.cn (.int .i64 0)]⟩,
  ⟨(some 6), none, .mov, [.cn (.int .i64 0)]⟩])
 (.seq (.region [⟨(some 9), none, (.load true 5), [.tm 2]⟩,
  ⟨(some 10), none, (.call 16), [.tm 9]⟩,
  ⟨(some 6), none, .mov, [.tm 10]⟩])
 (.seq (.block 0 (.seq (.region [⟨(some 12), none, .mov, [.tm 6]⟩,
  ⟨(some 13), none, (.cmp .neq), [.tm 12, .cn (.int .i64 0)]⟩,
  ⟨(some 11), none, .mov, [.tm 13]⟩])
 (.cond (.tm 11) (.seq (.region [⟨(some 14), none, .mov, [.tm 6]⟩,
  ⟨(some 4), none, .mov, [.cn (.int .i64 0)]⟩,
  ⟨(some 5), none, .mov, [.cn (.int .i64 0)]⟩,
  ⟨(some 6), none, .mov, [.tm 14]⟩])
 .ret)
  (.seq (.region [⟨(some 16), none, .mov, [.tm 1]⟩,
  ⟨(some 17), none, (.cmp .lss), [.tm 16, .cn (.int .i64 0)]⟩,
  ⟨(some 18), none, .mov, [.tm 17]⟩,
  ⟨(some 19), (some (18, false)), .mov, [.tm 1]⟩,
  ⟨(some 20), (some (18, false)), (.cmp .gtr), [.tm 19, .cn (.int .i64 4000000000)]⟩,
  ⟨(some 21), none, .or, [.tm 18, .tm 20]⟩,
  ⟨(some 15), none, .mov, [.tm 21]⟩])
 (.cond (.tm 15) (.seq (.region [⟨(some 4), none, .mov, [.cn (.int .i64 0)]⟩,
  ⟨(some 5), none, .mov, [.cn (.int .i64 0)]⟩,
  ⟨(some 6), none, .mov, [.cn (.int .i64 2)]⟩])
 .ret)
  .skip)))))
 (.seq (.region [⟨(some 23), none, (.load true 5), [.tm 2]⟩,
  ⟨(some 24), none, (.call 28), [.tm 23]⟩,
  ⟨(some 25), none, .mov, [.tm 1]⟩,
  ⟨(some 26), none, (.call 36), [.tm 24, .tm 25]⟩,
  ⟨(some 22), none, .mov, [.tm 26]⟩,
  ⟨(some 27), none, (.ext 0), [.tm 22]⟩,
  ⟨(some 28), none, (.ext 1), [.tm 22]⟩,
  ⟨(some 4), none, .mov, [.tm 27]⟩,
  ⟨(some 7), none, .mov, [.tm 28]⟩])
 (.seq (.region [⟨(some 30), none, (.load true 5), [.tm 2]⟩,
  ⟨(some 31), none, (.call 30), [.tm 30]⟩,
  ⟨(some 32), none, .mov, [.tm 1]⟩,
  ⟨(some 33), none, (.call 36), [.tm 31, .tm 32]⟩,
  ⟨(some 29), none, .mov, [.tm 33]⟩,
  ⟨(some 34), none, (.ext 0), [.tm 29]⟩,
  ⟨(some 35), none, (.ext 1), [.tm 29]⟩,
  ⟨(some 5), none, .mov, [.tm 34]⟩,
  ⟨(some 8), none, .mov, [.tm 35]⟩])
 (.seq (.seq (.region [⟨(some 36), none, .mov, [.tm 7]⟩,
  ⟨(some 37), none, .not, [.tm 36]⟩,
  ⟨(some 38), none, .mov, [.tm 37]⟩,
  ⟨(some 39), (some (38, false)), .mov, [.tm 8]⟩,
  ⟨(some 40), (some (38, false)), .not, [.tm 39]⟩,
  ⟨(some 41), none, .or, [.tm 38, .tm 40]⟩])
 (.cond (.tm 41) (.seq (.region [⟨(some 4), none, .mov, [.cn (.int .i64 0)]⟩,
  ⟨(some 5), none, .mov, [.cn (.int .i64 0)]⟩,
  ⟨(some 6), none, .mov, [.cn (.int .i64 3)]⟩])
 .ret)
  .skip))
 (.seq (.region [⟨(some 42), none, .mov, [.tm 4]⟩,
  ⟨(some 43), none, .mov, [.tm 5]⟩,
  ⟨(some 4), none, .mov, [.tm 42]⟩,
  ⟨(some 5), none, .mov, [.tm 43]⟩,
  ⟨(some 6), none, .mov, [.cn (.int .i64 0)]⟩])
 .ret))))))) }
theorem v19_is : vfunc Try.prog Try.f19 = some v19 := by kernel_rfl
def v20 : VF := { ntmps := 53, res := [.tmp 4, .tmp 5, .tmp 6], body :=
 (.seq (.region [⟨(some 2), none, .box, [.tm 0]⟩,
  ⟨(some 4), none, .mov, [.cn (.int .i64 0)]⟩,
  ⟨(some 5), none, .mov, [.cn (.int .i64 0)]⟩,
  ⟨(some 6), none, .mov, [.cn (.int .i64 0)]⟩])
 (.seq (.region [⟨(some 12), none, (.load true 5), [.tm 2]⟩,
  ⟨(some 13), none, (.call 17), [.tm 12]⟩,
  ⟨(some 7), none, .mov, [.tm 13]⟩])
 (.seq (.seq (.region [⟨(some 14), none, .mov, [.tm 7]⟩,
  ⟨(some 15), none, (.cmp .eql), [.tm 14, .cn (.int .i64 0)]⟩,
  ⟨(some 16), none, .mov, [.tm 15]⟩,
  ⟨(some 17), (some (16, true)), .mov, [.tm 1]⟩,
  ⟨(some 18), (some (16, true)), (.cmp .lss), [.tm 17, .cn (.int .i64 0)]⟩,
  ⟨(some 19), (some (16, true)), .mov, [.tm 18]⟩,
  ⟨(some 20), (some (19, false)), .mov, [.tm 1]⟩,
  ⟨(some 21), (some (19, false)), (.cmp .gtr), [.tm 20, .cn (.int .i64 4000000000)]⟩,
  ⟨(some 22), (some (16, true)), .or, [.tm 19, .tm 21]⟩,
  ⟨(some 23), none, .and, [.tm 16, .tm 22]⟩])
 (.cond (.tm 23) (.region [⟨(some 7), none, .mov, [.cn (.int .i64 2)]⟩])
  .skip))
 (.seq (.seq (.region [⟨(some 24), none, .mov, [.tm 7]⟩,
  ⟨(some 25), none, (.cmp .neq), [.tm 24, .cn (.int .i64 0)]⟩])
 (.cond (.tm 25) (.seq (.region [⟨(some 26), none, .mov, [.tm 7]⟩,
  ⟨(some 4), none, .mov, [.cn (.int .i64 0)]⟩,
  ⟨(some 5), none, .mov, [.cn (.int .i64 0)]⟩,
  ⟨(some 6), none, .mov, [.tm 26]⟩])
 .ret)
  .skip))
 (.seq (.region [⟨(some 28), none, (.load true 5), [.tm 2]⟩,
  ⟨(some 29), none, (.fieldAddr 3), [.tm 2]⟩,
  ⟨(some 30), none, (.fieldAddr 0), [.tm 29]⟩,
  ⟨(some 31), none, (.load false 1), [.tm 30]⟩,
  ⟨(some 32), none, .mov, [.tm 1]⟩,
  ⟨(some 33), none, (.call 37), [.tm 28, .tm 31, .tm 32]⟩,
  ⟨(some 27), none, .mov, [.tm 33]⟩,
  ⟨(some 34), none, (.ext 0), [.tm 27]⟩,
  ⟨(some 35), none, (.ext 1), [.tm 27]⟩,
  ⟨(some 8), none, .mov, [.tm 34]⟩,
  ⟨(some 9), none, .mov, [.tm 35]⟩])
 (.seq (.region [⟨(some 37), none, (.load true 5), [.tm 2]⟩,
  ⟨(some 38), none, (.fieldAddr 3), [.tm 2]⟩,
  ⟨(some 39), none, (.fieldAddr 1), [.tm 38]⟩,
  ⟨(some 40), none, (.load false 1), [.tm 39]⟩,
  ⟨(some 41), none, .mov, [.tm 1]⟩,
  ⟨(some 42), none, (.call 37), [.tm 37, .tm 40, .tm 41]⟩,
  ⟨(some 36), none, .mov, [.tm 42]⟩,
  ⟨(some 43), none, (.ext 0), [.tm 36]⟩,
  ⟨(some 44), none, (.ext 1), [.tm 36]⟩,
  ⟨(some 10), none, .mov, [.tm 43]⟩,
  ⟨(some 11), none, .mov, [.tm 44]⟩])
 (.seq (.seq (.region [⟨(some 45), none, .mov, [.tm 9]⟩,
  ⟨(some 46), none, .not, [.tm 45]⟩,
  ⟨(some 47), none, .mov, [.tm 46]⟩,
  ⟨(some 48), (some (47, false)), .mov, [.tm 11]⟩,
  ⟨(some 49), (some (47, false)), .not, [.tm 48]⟩,
  ⟨(some 50), none, .or, [.tm 47, .tm 49]⟩])
 (.cond (.tm 50) (.seq (.region [⟨(some 4), none, .mov, [.cn (.int .i64 0)]⟩,
  ⟨(some 5), none, .mov, [.cn (.int .i64 0)]⟩,
  ⟨(some 6), none, .mov, [.cn (.int .i64 3)]⟩])
 .ret)
  .skip))
 (.seq (.region [⟨(some 51), none, .mov, [.tm 8]⟩,
  ⟨(some 52), none, .mov, [.tm 10]⟩,
  ⟨(some 4), none, .mov, [.tm 51]⟩,
  ⟨(some 5), none, .mov, [.tm 52]⟩,
  ⟨(some 6), none, .mov, [.cn (.int .i64 0)]⟩])
 .ret)))))))) }
theorem v20_is : vfunc Try.prog Try.f20 = some v20 := by kernel_rfl


def H1 : Env := { ct := fun n => match n with | 32 => some hasC | 23 => some tickC | 16 => some belC | 17 => some belC | 28 => some worstC | 30 => some bestC | _ => none, fn := fun _ => none, meth := fun _ _ => none }
theorem H1_ct32 : H1.ct 32 = some hasC := rfl
theorem H1_ct23 : H1.ct 23 = some tickC := rfl
theorem H1_ct16 : H1.ct 16 = some belC := rfl
theorem H1_ct17 : H1.ct 17 = some belC := rfl
theorem H1_ct28 : H1.ct 28 = some worstC := rfl
theorem H1_ct30 : H1.ct 30 = some bestC := rfl
theorem H1_ok : EnvOk Try.prog H1 := by
  refine ⟨fun f c h => ?_, fun f vf h => ?_, fun _ _ => rfl, by kernel_rfl⟩
  · simp only [H1] at h
    split at h
    · cases h; exact ⟨has32, Try.f32, Try.func32, by kernel_rfl, by kernel_rfl⟩
    · cases h; exact ⟨tick23, Try.f23, Try.func23, by kernel_rfl, by kernel_rfl⟩
    · cases h; exact ⟨bel16, Try.f16, Try.func16, by kernel_rfl, by kernel_rfl⟩
    · cases h; exact ⟨bel17, Try.f17, Try.func17, by kernel_rfl, by kernel_rfl⟩
    · cases h; exact ⟨worst28, Try.f28, Try.func28, by kernel_rfl, by kernel_rfl⟩
    · cases h; exact ⟨best30, Try.f30, Try.func30, by kernel_rfl, by kernel_rfl⟩
    · cases h
  · cases h


def lastC : Ctr := { alias := false, of := fun a => match a with
  | [.agg [.int .i64 st, .int .i64 lo, .int .i64 hi, .int .i64 il, .int .i64 ih, .int .i64 n, .fn _ [] []], .int .i64 d] => .pre (w6 (hi - lo) ≠ 0) (.fin (.tup [.int .i64 (lastF ⟨st, lo, hi, il, ih⟩ n d).1, .bool (lastF ⟨st, lo, hi, il, ih⟩ n d).2]) [])
  | _ => noC }

def lfail (b : Bel) (n d : Int) (k : Nat) : Bool := decide (hasF b n (lastV b n d k) < d)

theorem last_at {b : Bel} {n d : Int} {i : Nat} (hd : ¬ d ≤ n) (h : i < 1000001) (ha : ∀ j, j < i → lfail b n d j = false) (hb : lfail b n d i = true) : lastN b n d = i ∧ lastF b n d = ((i : Int), true) := by
  have e : lastN b n d = i := leastF_eq ha (by omega) (fun _ => hb)
  exact ⟨e, by rw [lastF, if_neg hd, e, if_pos h]⟩
theorem last_no {b : Bel} {n d : Int} (hd : ¬ d ≤ n) (ha : ∀ j, j < 1000001 → lfail b n d j = false) : lastN b n d = 1000001 ∧ lastF b n d = (0, false) := by
  have e : lastN b n d = 1000001 := leastF_eq ha (by omega) (fun h => by omega)
  exact ⟨e, by rw [lastF, if_neg hd, e, if_neg (by omega)]⟩

theorem last36 : lastC.ok Try.prog 36 := by
  refine contract Try.func36 v36_is H1_ok 400 lastC fun args k h => ?_
  simp only [lastC] at h
  split at h
  · rename_i st lo hi il ih n f d
    obtain ⟨hne, h⟩ := h
    refine ⟨[.agg [.int .i64 st, .int .i64 lo, .int .i64 hi, .int .i64 il, .int .i64 ih, .int .i64 n, .fn f [] []], .int .i64 d], by simp [leL, le, bnd_fn, bndL_nil], ?_⟩
    dsimp only [v36, r_end, r_end1, r_nil, r_op, r_opg, r_runOp, r_op0, r_yld0, r_yld1, r_y, r_rbeg, r_rend, r_rend1, r_rfrm, r_rfrm1, r_range, r_rangeK, r_rangeE, r_draw, r_dnil, r_dop, r_dopg, r_dplq, r_dplh, r_dq, r_dq0, r_dcl1, r_dcl0, r_dct1, r_dct0, r_dgd, r_dgq1, r_dgq0, r_dctG, r_op1, r_eff, r_eff0, r_call, r_call0, r_inl, r_g, r_gq, r_gc, r_effg, r_effg0, r_callg, r_callg0, r_fin, r_pre, r_imp, r_all, r_ex, r_fing, r_preg, r_exg, r_inBlock, r_inLoop, r_frame, r_frame1, r_skip, r_region, r_seq, r_cond, r_cond1, r_block, r_exit, r_exit1, r_exit2, r_ret, r_loop, s_args0, s_args1, s_xt, s_xc, padL, blankL, callee, callArgs, eff, ctOf, getL, setL, S.put, S.upd, unopts, unopt, unoptsO, unoptsB, lazyO, guardOf, gbool, eMov, eNot, eNeg, eConv, eExt, eLenArr, eLen, eLenStr, eEqb, eEqv, allEq, eNil, negIf, eBool2, eCmp, eAri, ari, eBit, eDiv, eSh, eMinMax, foldMin, foldMax, kEq, pure1, cmpB, VO.quiet, resVals, resVal, tupled, popRet, popTo, cond, Option.bind, Option.map, eNew, eBox, asCells, lenH, snocH, eFieldAddr, eField, eLoad, cellsAt, getH, setH, dropL, takeL, mkAgg, lenL, lenS, shift, shiftL, shiftH, viewN, viewL, view, andT, junks, List.append_nil, Nat.beq, eIdxAddr, eIdxArr, eIndex, eStore, storeAt, spliceL, ones, one, eSlice, eSliceArr, bounds, subLo, addLo, eMake, eAppend, readS, repL, buildCells, chunk, purgeL, purgeLL, purgeH, purge, refs, refsL, List.cons_append, List.nil_append, wrOps, wrAl, wrDops, wrC, junkAt, putAll, putHs, headOf, headK, keepG, List.append_eq, headX, chkP, apartP, apartB, blk, strip, runAl, yld, putPs, lenN, findR, notRound, jumpK, jumpPT, jcode, List.map_cons, List.map_nil, ite_self, reduceIte]
    simp only [true_and, and_true, imp_self, implies_true, decide_eq_true_eq, decide_eq_false_iff_not, Nat.reduceAdd, Nat.reduceLeDiff, Bool.not_not, reduceCtorEq, false_imp_iff, Bool.not_eq_true', Bool.not_eq_false', Bool.false_eq_true, and_self, forall_const, ne_eq, not_false_eq_true, Nat.reduceEqDiff]
    refine ⟨fun hb => ?_, fun hb => ?_⟩
    · rw [lastF, if_pos hb] at h
      exact ans_le (show k _ [] from h) (by simp [expo, view, viewL, le, leL]) (by simp [freshS, freshL])
    · refine Loop.keep [1, 0, 3, 9] Nat (fun i => [(6, .int .i64 (lastV ⟨st, lo, hi, il, ih⟩ n d i)), (16, .int .i64 i)]) (fun _ => []) [] (fun i => i ≤ 1000001 ∧ ∀ j, j < i → lfail ⟨st, lo, hi, il, ih⟩ n d j = false) (fun i => 1000001 - i) ?_ ?_
      · refine ⟨0, ⟨by omega, fun j h => by omega⟩, ?_⟩
        dsimp only [lastV, r_end, r_end1, r_nil, r_op, r_opg, r_runOp, r_op0, r_yld0, r_yld1, r_y, r_rbeg, r_rend, r_rend1, r_rfrm, r_rfrm1, r_range, r_rangeK, r_rangeE, r_draw, r_dnil, r_dop, r_dopg, r_dplq, r_dplh, r_dq, r_dq0, r_dcl1, r_dcl0, r_dct1, r_dct0, r_dgd, r_dgq1, r_dgq0, r_dctG, r_op1, r_eff, r_eff0, r_call, r_call0, r_inl, r_g, r_gq, r_gc, r_effg, r_effg0, r_callg, r_callg0, r_fin, r_pre, r_imp, r_all, r_ex, r_fing, r_preg, r_exg, r_inBlock, r_inLoop, r_frame, r_frame1, r_skip, r_region, r_seq, r_cond, r_cond1, r_block, r_exit, r_exit1, r_exit2, r_ret, r_loop, s_args0, s_args1, s_xt, s_xc, padL, blankL, callee, callArgs, eff, ctOf, getL, setL, S.put, S.upd, unopts, unopt, unoptsO, unoptsB, lazyO, guardOf, gbool, eMov, eNot, eNeg, eConv, eExt, eLenArr, eLen, eLenStr, eEqb, eEqv, allEq, eNil, negIf, eBool2, eCmp, eAri, ari, eBit, eDiv, eSh, eMinMax, foldMin, foldMax, kEq, pure1, cmpB, VO.quiet, resVals, resVal, tupled, popRet, popTo, cond, Option.bind, Option.map, eNew, eBox, asCells, lenH, snocH, eFieldAddr, eField, eLoad, cellsAt, getH, setH, dropL, takeL, mkAgg, lenL, lenS, shift, shiftL, shiftH, viewN, viewL, view, andT, junks, List.append_nil, Nat.beq, eIdxAddr, eIdxArr, eIndex, eStore, storeAt, spliceL, ones, one, eSlice, eSliceArr, bounds, subLo, addLo, eMake, eAppend, readS, repL, buildCells, chunk, purgeL, purgeLL, purgeH, purge, refs, refsL, List.cons_append, List.nil_append, wrOps, wrAl, wrDops, wrC, junkAt, putAll, putHs, headOf, headK, keepG, List.append_eq, headX, chkP, apartP, apartB, blk, strip, runAl, yld, putPs, lenN, findR, notRound, jumpK, jumpPT, jcode, List.map_cons, List.map_nil, ite_self, reduceIte]
        simp only [leS_mk, leL_cons, leL_nil, le_junk, le_int, le_bool, le_nil, leLL_nil, leLL_cons, leH_cons, leH_nil, leH1_box, leH1_own, leH1_gone, le_vs, le_agg, le_tup, le_ptr, le_own, le_xp, le_fn, le_opt, le_val, le_elem, le_nil_own, le_nil_vs, leH_ghost, leL_chunk, leXL_id, bnd_int, bnd_bool, bnd_val, bnd_nil, bnd_junk, bnd_vs, bnd_xp, bnd_agg, bnd_tup, bnd_ptr, bnd_own, bnd_elem, bnd_fn, bnd_iface, bnd_opt, bndL_nil, bndL_cons, lenH_cons, lenH_nil, imp_self, implies_true, true_and, and_true] <;> simp
      · rintro i ⟨hi', ha⟩
        dsimp only [H1_ct32, hasC, Int.toNat_natCast, r_end, r_end1, r_nil, r_op, r_opg, r_runOp, r_op0, r_yld0, r_yld1, r_y, r_rbeg, r_rend, r_rend1, r_rfrm, r_rfrm1, r_range, r_rangeK, r_rangeE, r_draw, r_dnil, r_dop, r_dopg, r_dplq, r_dplh, r_dq, r_dq0, r_dcl1, r_dcl0, r_dct1, r_dct0, r_dgd, r_dgq1, r_dgq0, r_dctG, r_op1, r_eff, r_eff0, r_call, r_call0, r_inl, r_g, r_gq, r_gc, r_effg, r_effg0, r_callg, r_callg0, r_fin, r_pre, r_imp, r_all, r_ex, r_fing, r_preg, r_exg, r_inBlock, r_inLoop, r_frame, r_frame1, r_skip, r_region, r_seq, r_cond, r_cond1, r_block, r_exit, r_exit1, r_exit2, r_ret, r_loop, s_args0, s_args1, s_xt, s_xc, padL, blankL, callee, callArgs, eff, ctOf, getL, setL, S.put, S.upd, unopts, unopt, unoptsO, unoptsB, lazyO, guardOf, gbool, eMov, eNot, eNeg, eConv, eExt, eLenArr, eLen, eLenStr, eEqb, eEqv, allEq, eNil, negIf, eBool2, eCmp, eAri, ari, eBit, eDiv, eSh, eMinMax, foldMin, foldMax, kEq, pure1, cmpB, VO.quiet, resVals, resVal, tupled, popRet, popTo, cond, Option.bind, Option.map, eNew, eBox, asCells, lenH, snocH, eFieldAddr, eField, eLoad, cellsAt, getH, setH, dropL, takeL, mkAgg, lenL, lenS, shift, shiftL, shiftH, viewN, viewL, view, andT, junks, List.append_nil, Nat.beq, eIdxAddr, eIdxArr, eIndex, eStore, storeAt, spliceL, ones, one, eSlice, eSliceArr, bounds, subLo, addLo, eMake, eAppend, readS, repL, buildCells, chunk, purgeL, purgeLL, purgeH, purge, refs, refsL, List.cons_append, List.nil_append, wrOps, wrAl, wrDops, wrC, junkAt, putAll, putHs, headOf, headK, keepG, List.append_eq, headX, chkP, apartP, apartB, blk, strip, runAl, yld, putPs, lenN, findR, notRound, jumpK, jumpPT, jcode, List.map_cons, List.map_nil, ite_self, reduceIte]
        simp only [true_and, and_true, imp_self, implies_true, decide_eq_true_eq, decide_eq_false_iff_not, Nat.reduceAdd, Nat.reduceLeDiff, Bool.not_not, reduceCtorEq, false_imp_iff, Bool.not_eq_true', Bool.not_eq_false', Bool.false_eq_true, and_self, forall_const, ne_eq, not_false_eq_true, Nat.reduceEqDiff]
        refine ⟨fun hlt => ⟨hne, fun hc => ?_, fun hc => ?_⟩, fun hge => ?_⟩
        · rw [(last_at hb (by omega) ha (decide_eq_true hc)).2] at h
          exact ans_le (show k _ [] from h) (by simp [expo, view, viewL, le, leL]) (by simp [freshS, freshL])
        · refine ⟨i + 1, ⟨by omega, fun j hj => ?_⟩, by omega, ?_⟩
          · rcases Nat.lt_or_ge j i with h' | h'
            · exact ha j h'
            · obtain rfl : j = i := by omega
              exact decide_eq_false hc
          · have hs := w_succ (i := i) (n := 1000001) (by omega) (by omega)
            simp only [hs, lastV, w6, leS_mk, leL_cons, leL_nil, le_junk, le_int, le_bool, le_nil, leLL_nil, leLL_cons, leH_cons, leH_nil, leH1_box, leH1_own, leH1_gone, le_vs, le_agg, le_tup, le_ptr, le_own, le_xp, le_fn, le_opt, le_val, le_elem, le_nil_own, le_nil_vs, leH_ghost, leL_chunk, leXL_id, bnd_int, bnd_bool, bnd_val, bnd_nil, bnd_junk, bnd_vs, bnd_xp, bnd_agg, bnd_tup, bnd_ptr, bnd_own, bnd_elem, bnd_fn, bnd_iface, bnd_opt, bndL_nil, bndL_cons, lenH_cons, lenH_nil, imp_self, implies_true, true_and, and_true] <;> simp
        · obtain rfl : i = 1000001 := by omega
          rw [(last_no hb ha).2] at h
          exact ans_le (show k _ [] from h) (by simp [expo, view, viewL, le, leL]) (by simp [freshS, freshL])
  · exact h.1.elim

def rlastF (b : Bel) (n d : Int) : Int × Bool := if d ≤ n then (-1, true) else ((lastN b n d : Int), decide (lastN b n d < 1000001))
def rlastC : Ctr := { alias := false, of := fun a => match a with
  | [.agg [.int .i64 st, .int .i64 lo, .int .i64 hi, .int .i64 il, .int .i64 ih], .int .i64 n, .int .i64 d] => .pre (belE ⟨st, lo, hi, il, ih⟩ = 0 ∧ Fit ⟨st, lo, hi, il, ih⟩ n ∧ 0 ≤ d ∧ d ≤ 4000000000) (.fin (.tup [.int .i64 (rlastF ⟨st, lo, hi, il, ih⟩ n d).1, .bool (rlastF ⟨st, lo, hi, il, ih⟩ n d).2]) [])
  | _ => noC }

theorem lastV_ok {b : Bel} {n d : Int} (h : Fit b n) (hb : 0 ≤ b.st ∧ b.st ≤ b.hi) (hd : 0 ≤ d ∧ d ≤ 4000000000) : ∀ i, (∀ j, j < i → lfail b n d j = false) → 0 ≤ lastV b n d i ∧ lastV b n d i ≤ b.hi
  | 0, _ => hb
  | i + 1, ha => by
    obtain ⟨a1, a2⟩ := lastV_ok h hb hd i fun j hj => ha j (by omega)
    obtain ⟨e1, e2, _⟩ := has_ok h a1 a2
    have := of_decide_eq_false (ha i (by omega))
    have := h.h1
    rw [lastV, w6_in (by omega) (by omega)]; omega

theorem last37 : rlastC.ok Try.prog 37 := by
  refine contract Try.func37 v37_is H1_ok 400 rlastC fun args k h => ?_
  simp only [rlastC] at h
  split at h
  · rename_i st lo hi il ih n d
    obtain ⟨⟨hbe, hfit, hd0, hd1⟩, h⟩ := h
    have hne := fit_ne hfit
    have hbo := bel_ok hbe
    refine ⟨[.agg [.int .i64 st, .int .i64 lo, .int .i64 hi, .int .i64 il, .int .i64 ih], .int .i64 n, .int .i64 d], by simp [leL, le], ?_⟩
    dsimp only [v37, r_end, r_end1, r_nil, r_op, r_opg, r_runOp, r_op0, r_yld0, r_yld1, r_y, r_rbeg, r_rend, r_rend1, r_rfrm, r_rfrm1, r_range, r_rangeK, r_rangeE, r_draw, r_dnil, r_dop, r_dopg, r_dplq, r_dplh, r_dq, r_dq0, r_dcl1, r_dcl0, r_dct1, r_dct0, r_dgd, r_dgq1, r_dgq0, r_dctG, r_op1, r_eff, r_eff0, r_call, r_call0, r_inl, r_g, r_gq, r_gc, r_effg, r_effg0, r_callg, r_callg0, r_fin, r_pre, r_imp, r_all, r_ex, r_fing, r_preg, r_exg, r_inBlock, r_inLoop, r_frame, r_frame1, r_skip, r_region, r_seq, r_cond, r_cond1, r_block, r_exit, r_exit1, r_exit2, r_ret, r_loop, s_args0, s_args1, s_xt, s_xc, padL, blankL, callee, callArgs, eff, ctOf, getL, setL, S.put, S.upd, unopts, unopt, unoptsO, unoptsB, lazyO, guardOf, gbool, eMov, eNot, eNeg, eConv, eExt, eLenArr, eLen, eLenStr, eEqb, eEqv, allEq, eNil, negIf, eBool2, eCmp, eAri, ari, eBit, eDiv, eSh, eMinMax, foldMin, foldMax, kEq, pure1, cmpB, VO.quiet, resVals, resVal, tupled, popRet, popTo, cond, Option.bind, Option.map, eNew, eBox, asCells, lenH, snocH, eFieldAddr, eField, eLoad, cellsAt, getH, setH, dropL, takeL, mkAgg, lenL, lenS, shift, shiftL, shiftH, viewN, viewL, view, andT, junks, List.append_nil, Nat.beq, eIdxAddr, eIdxArr, eIndex, eStore, storeAt, spliceL, ones, one, eSlice, eSliceArr, bounds, subLo, addLo, eMake, eAppend, readS, repL, buildCells, chunk, purgeL, purgeLL, purgeH, purge, refs, refsL, List.cons_append, List.nil_append, wrOps, wrAl, wrDops, wrC, junkAt, putAll, putHs, headOf, headK, keepG, List.append_eq, headX, chkP, apartP, apartB, blk, strip, runAl, yld, putPs, lenN, findR, notRound, jumpK, jumpPT, jcode, List.map_cons, List.map_nil, ite_self, reduceIte]
    simp only [true_and, and_true, imp_self, implies_true, decide_eq_true_eq, decide_eq_false_iff_not, Nat.reduceAdd, Nat.reduceLeDiff, Bool.not_not, reduceCtorEq, false_imp_iff, Bool.not_eq_true', Bool.not_eq_false', Bool.false_eq_true, and_self, forall_const, ne_eq, not_false_eq_true, Nat.reduceEqDiff]
    refine ⟨fun hb => ?_, fun hb => ?_⟩
    · rw [rlastF, if_pos hb] at h
      exact ans_le (show k _ [] from h) (by simp [expo, view, viewL, le, leL]) (by simp [freshS, freshL])
    · refine Loop.keep [1, 0, 0, 4, 0, 0] (Nat × Bool × Int) (fun x => [(8, .int .i64 x.2.2), (9, .bool x.2.1), (10, .int .i64 ((x.1 : Int) - 1))]) (fun _ => []) [] (fun x => x.1 ≤ 1000002 ∧ (∀ j, j + (if x.2.1 then 1 else 0) < x.1 → lfail ⟨st, lo, hi, il, ih⟩ n d j = false) ∧ (x.2.1 = false → x.2.2 = lastV ⟨st, lo, hi, il, ih⟩ n d x.1) ∧ (x.2.1 = true → 1 ≤ x.1 ∧ lfail ⟨st, lo, hi, il, ih⟩ n d (x.1 - 1) = true)) (fun x => 1000002 - x.1) ?_ ?_
      · refine ⟨(0, false, st), ⟨by simp, fun j h => by simp at h, fun _ => rfl, fun h => by cases h⟩, ?_⟩
        dsimp only [lastV, r_end, r_end1, r_nil, r_op, r_opg, r_runOp, r_op0, r_yld0, r_yld1, r_y, r_rbeg, r_rend, r_rend1, r_rfrm, r_rfrm1, r_range, r_rangeK, r_rangeE, r_draw, r_dnil, r_dop, r_dopg, r_dplq, r_dplh, r_dq, r_dq0, r_dcl1, r_dcl0, r_dct1, r_dct0, r_dgd, r_dgq1, r_dgq0, r_dctG, r_op1, r_eff, r_eff0, r_call, r_call0, r_inl, r_g, r_gq, r_gc, r_effg, r_effg0, r_callg, r_callg0, r_fin, r_pre, r_imp, r_all, r_ex, r_fing, r_preg, r_exg, r_inBlock, r_inLoop, r_frame, r_frame1, r_skip, r_region, r_seq, r_cond, r_cond1, r_block, r_exit, r_exit1, r_exit2, r_ret, r_loop, s_args0, s_args1, s_xt, s_xc, padL, blankL, callee, callArgs, eff, ctOf, getL, setL, S.put, S.upd, unopts, unopt, unoptsO, unoptsB, lazyO, guardOf, gbool, eMov, eNot, eNeg, eConv, eExt, eLenArr, eLen, eLenStr, eEqb, eEqv, allEq, eNil, negIf, eBool2, eCmp, eAri, ari, eBit, eDiv, eSh, eMinMax, foldMin, foldMax, kEq, pure1, cmpB, VO.quiet, resVals, resVal, tupled, popRet, popTo, cond, Option.bind, Option.map, eNew, eBox, asCells, lenH, snocH, eFieldAddr, eField, eLoad, cellsAt, getH, setH, dropL, takeL, mkAgg, lenL, lenS, shift, shiftL, shiftH, viewN, viewL, view, andT, junks, List.append_nil, Nat.beq, eIdxAddr, eIdxArr, eIndex, eStore, storeAt, spliceL, ones, one, eSlice, eSliceArr, bounds, subLo, addLo, eMake, eAppend, readS, repL, buildCells, chunk, purgeL, purgeLL, purgeH, purge, refs, refsL, List.cons_append, List.nil_append, wrOps, wrAl, wrDops, wrC, junkAt, putAll, putHs, headOf, headK, keepG, List.append_eq, headX, chkP, apartP, apartB, blk, strip, runAl, yld, putPs, lenN, findR, notRound, jumpK, jumpPT, jcode, List.map_cons, List.map_nil, ite_self, reduceIte]
        simp only [leS_mk, leL_cons, leL_nil, le_junk, le_int, le_bool, le_nil, leLL_nil, leLL_cons, leH_cons, leH_nil, leH1_box, leH1_own, leH1_gone, le_vs, le_agg, le_tup, le_ptr, le_own, le_xp, le_fn, le_opt, le_val, le_elem, le_nil_own, le_nil_vs, leH_ghost, leL_chunk, leXL_id, bnd_int, bnd_bool, bnd_val, bnd_nil, bnd_junk, bnd_vs, bnd_xp, bnd_agg, bnd_tup, bnd_ptr, bnd_own, bnd_elem, bnd_fn, bnd_iface, bnd_opt, bndL_nil, bndL_cons, lenH_cons, lenH_nil, imp_self, implies_true, true_and, and_true] <;> simp
      · rintro ⟨i, fl, v⟩ ⟨hi', ha, hv, hf⟩
        dsimp only [H1_ct23, tickC, Int.toNat_natCast, r_end, r_end1, r_nil, r_op, r_opg, r_runOp, r_op0, r_yld0, r_yld1, r_y, r_rbeg, r_rend, r_rend1, r_rfrm, r_rfrm1, r_range, r_rangeK, r_rangeE, r_draw, r_dnil, r_dop, r_dopg, r_dplq, r_dplh, r_dq, r_dq0, r_dcl1, r_dcl0, r_dct1, r_dct0, r_dgd, r_dgq1, r_dgq0, r_dctG, r_op1, r_eff, r_eff0, r_call, r_call0, r_inl, r_g, r_gq, r_gc, r_effg, r_effg0, r_callg, r_callg0, r_fin, r_pre, r_imp, r_all, r_ex, r_fing, r_preg, r_exg, r_inBlock, r_inLoop, r_frame, r_frame1, r_skip, r_region, r_seq, r_cond, r_cond1, r_block, r_exit, r_exit1, r_exit2, r_ret, r_loop, s_args0, s_args1, s_xt, s_xc, padL, blankL, callee, callArgs, eff, ctOf, getL, setL, S.put, S.upd, unopts, unopt, unoptsO, unoptsB, lazyO, guardOf, gbool, eMov, eNot, eNeg, eConv, eExt, eLenArr, eLen, eLenStr, eEqb, eEqv, allEq, eNil, negIf, eBool2, eCmp, eAri, ari, eBit, eDiv, eSh, eMinMax, foldMin, foldMax, kEq, pure1, cmpB, VO.quiet, resVals, resVal, tupled, popRet, popTo, cond, Option.bind, Option.map, eNew, eBox, asCells, lenH, snocH, eFieldAddr, eField, eLoad, cellsAt, getH, setH, dropL, takeL, mkAgg, lenL, lenS, shift, shiftL, shiftH, viewN, viewL, view, andT, junks, List.append_nil, Nat.beq, eIdxAddr, eIdxArr, eIndex, eStore, storeAt, spliceL, ones, one, eSlice, eSliceArr, bounds, subLo, addLo, eMake, eAppend, readS, repL, buildCells, chunk, purgeL, purgeLL, purgeH, purge, refs, refsL, List.cons_append, List.nil_append, wrOps, wrAl, wrDops, wrC, junkAt, putAll, putHs, headOf, headK, keepG, List.append_eq, headX, chkP, apartP, apartB, blk, strip, runAl, yld, putPs, lenN, findR, notRound, jumpK, jumpPT, jcode, List.map_cons, List.map_nil, ite_self, reduceIte]
        simp only [true_and, and_true, imp_self, implies_true, decide_eq_true_eq, decide_eq_false_iff_not, Nat.reduceAdd, Nat.reduceLeDiff, Bool.not_not, reduceCtorEq, false_imp_iff, Bool.not_eq_true', Bool.not_eq_false', Bool.false_eq_true, and_self, forall_const, ne_eq, not_false_eq_true, Nat.reduceEqDiff]
        simp only at hi' ha hv hf
        refine ⟨fun hc => ?_, fun hc => ?_⟩
        · rw [Bool.and_eq_true, Bool.not_eq_true', decide_eq_true_eq] at hc
          obtain ⟨rfl, hc⟩ := hc
          obtain rfl := hv rfl
          have ha' : ∀ j, j < i → lfail ⟨st, lo, hi, il, ih⟩ n d j = false := fun j hj => ha j (by simpa using hj)
          obtain ⟨r1, r2⟩ := lastV_ok hfit ⟨hbo.2.2.2.1, hbo.2.2.2.2.1⟩ ⟨hd0, hd1⟩ i ha'
          obtain ⟨e1, e2, e3⟩ := has_ok hfit r1 r2
          have hs : IntKind.i64.wrap ((i : Int) - 1 + 1) = ((i + 1 : Nat) : Int) - 1 := by rw [w6_raw (by omega) (by omega)]; omega
          refine ⟨hne, by decide, by decide, by decide, ?_⟩
          by_cases hf' : hasF ⟨st, lo, hi, il, ih⟩ n (lastV ⟨st, lo, hi, il, ih⟩ n d i) < d
          · have t : tickF ⟨st, lo, hi, il, ih⟩ (lastV ⟨st, lo, hi, il, ih⟩ n d i) n d = (0, hasF ⟨st, lo, hi, il, ih⟩ n (lastV ⟨st, lo, hi, il, ih⟩ n d i), true) := by rw [tickF, e3, if_pos hf']
            rw [t]
            refine ⟨(i + 1, true, 0), ⟨by simp only; omega, fun j hj => ha' j (by simpa using hj), fun h => (by cases h), fun _ => ⟨by simp, decide_eq_true hf'⟩⟩, by simp only; omega, ?_⟩
            simp only [hs, leS_mk, leL_cons, leL_nil, le_junk, le_int, le_bool, le_nil, leLL_nil, leLL_cons, leH_cons, leH_nil, leH1_box, leH1_own, leH1_gone, le_vs, le_agg, le_tup, le_ptr, le_own, le_xp, le_fn, le_opt, le_val, le_elem, le_nil_own, le_nil_vs, leH_ghost, leL_chunk, leXL_id, bnd_int, bnd_bool, bnd_val, bnd_nil, bnd_junk, bnd_vs, bnd_xp, bnd_agg, bnd_tup, bnd_ptr, bnd_own, bnd_elem, bnd_fn, bnd_iface, bnd_opt, bndL_nil, bndL_cons, lenH_cons, lenH_nil, imp_self, implies_true, true_and, and_true] <;> simp
          · have t : tickF ⟨st, lo, hi, il, ih⟩ (lastV ⟨st, lo, hi, il, ih⟩ n d i) n d = (w6 (hasF ⟨st, lo, hi, il, ih⟩ n (lastV ⟨st, lo, hi, il, ih⟩ n d i) - d), d, false) := by rw [tickF, e3, if_neg hf']
            rw [t]
            refine ⟨(i + 1, false, w6 (hasF ⟨st, lo, hi, il, ih⟩ n (lastV ⟨st, lo, hi, il, ih⟩ n d i) - d)), ⟨by simp only; omega, fun j hj => ?_, fun _ => rfl, fun h => by cases h⟩, by simp only; omega, ?_⟩
            · rcases Nat.lt_or_ge j i with h' | h'
              · exact ha' j h'
              · obtain rfl : j = i := by simp at hj; omega
                exact decide_eq_false hf'
            · simp only [hs, leS_mk, leL_cons, leL_nil, le_junk, le_int, le_bool, le_nil, leLL_nil, leLL_cons, leH_cons, leH_nil, leH1_box, leH1_own, leH1_gone, le_vs, le_agg, le_tup, le_ptr, le_own, le_xp, le_fn, le_opt, le_val, le_elem, le_nil_own, le_nil_vs, leH_ghost, leL_chunk, leXL_id, bnd_int, bnd_bool, bnd_val, bnd_nil, bnd_junk, bnd_vs, bnd_xp, bnd_agg, bnd_tup, bnd_ptr, bnd_own, bnd_elem, bnd_fn, bnd_iface, bnd_opt, bndL_nil, bndL_cons, lenH_cons, lenH_nil, imp_self, implies_true, true_and, and_true] <;> simp
        · have hN : (lastN ⟨st, lo, hi, il, ih⟩ n d : Int) = (i : Int) - 1 := by
            cases fl with
            | true =>
              obtain ⟨g1, g2⟩ := hf rfl
              have e : lastN ⟨st, lo, hi, il, ih⟩ n d = i - 1 := leastF_eq (fun j hj => ha j (by simp; omega)) (by omega) (fun _ => g2)
              omega
            | false =>
              rw [Bool.not_false, Bool.true_and, decide_eq_false_iff_not] at hc
              have e : lastN ⟨st, lo, hi, il, ih⟩ n d = 1000001 := leastF_eq (fun j hj => ha j (by simp; omega)) (by omega) (fun h => by omega)
              omega
          rw [rlastF, if_neg hb, hN] at h
          have e2 : decide (lastN ⟨st, lo, hi, il, ih⟩ n d < 1000001) = decide ((i : Int) - 1 ≤ 1000000) := decide_eq_decide.2 (by omega)
          rw [e2] at h
          exact ans_le (show k _ [] from h) (by simp [expo, view, viewL, le, leL]) (by simp [freshS, freshL])
  · exact h.1.elim

def d1C (r : Bel → Int → SV) : Ctr := { alias := false, of := fun a => match a with
  | [.agg [.int .i64 st, .int .i64 lo, .int .i64 hi, .int .i64 il, .int .i64 ih], .int .i64 d] => .fin (r ⟨st, lo, hi, il, ih⟩ d) []
  | _ => noC }
def lastsC : Ctr := d1C fun b d => .tup [.int .i64 (lastsF b d).1, .int .i64 (lastsF b d).2.1, .int .i64 (lastsF b d).2.2]

def H2 : Env := { ct := fun n => match n with | 36 => some lastC | 37 => some rlastC | 16 => some belC | 17 => some belC | 28 => some worstC | 30 => some bestC | _ => none, fn := fun _ => none, meth := fun _ _ => none }
theorem H2_ct36 : H2.ct 36 = some lastC := rfl
theorem H2_ct37 : H2.ct 37 = some rlastC := rfl
theorem H2_ct16 : H2.ct 16 = some belC := rfl
theorem H2_ct17 : H2.ct 17 = some belC := rfl
theorem H2_ct28 : H2.ct 28 = some worstC := rfl
theorem H2_ct30 : H2.ct 30 = some bestC := rfl
theorem H2_ok : EnvOk Try.prog H2 := by
  refine ⟨fun f c h => ?_, fun f vf h => ?_, fun _ _ => rfl, by kernel_rfl⟩
  · simp only [H2] at h
    split at h
    · cases h; exact ⟨last36, Try.f36, Try.func36, by kernel_rfl, by kernel_rfl⟩
    · cases h; exact ⟨last37, Try.f37, Try.func37, by kernel_rfl, by kernel_rfl⟩
    · cases h; exact ⟨bel16, Try.f16, Try.func16, by kernel_rfl, by kernel_rfl⟩
    · cases h; exact ⟨bel17, Try.f17, Try.func17, by kernel_rfl, by kernel_rfl⟩
    · cases h; exact ⟨worst28, Try.f28, Try.func28, by kernel_rfl, by kernel_rfl⟩
    · cases h; exact ⟨best30, Try.f30, Try.func30, by kernel_rfl, by kernel_rfl⟩
    · cases h
  · cases h


theorem rlast_ok {b : Bel} {n d : Int} (h : (lastF b n d).2 = true) : rlastF b n d = lastF b n d := by
  unfold rlastF lastF at *
  by_cases c : d ≤ n
  · rw [if_pos c, if_pos c]
  · rw [if_neg c] at h ⊢
    rw [if_neg c]
    by_cases c2 : lastN b n d < 1000001
    · rw [if_pos c2, decide_eq_true c2]
    · rw [if_neg c2] at h; cases h
theorem rlast_2 {b : Bel} {n d : Int} : (rlastF b n d).2 = (lastF b n d).2 := by
  unfold rlastF lastF
  by_cases c : d ≤ n
  · rw [if_pos c, if_pos c]
  · rw [if_neg c, if_neg c]
    by_cases c2 : lastN b n d < 1000001
    · rw [if_pos c2]; exact decide_eq_true c2
    · rw [if_neg c2]; exact decide_eq_false c2

theorem lasts19 : lastsC.ok Try.prog 19 := by
  refine contract Try.func19 v19_is H2_ok 400 lastsC fun args k h => ⟨args, ?_⟩
  simp only [lastsC, d1C] at h
  split at h
  · rename_i st lo hi il ih d
    refine ⟨by simp [leL, le], ?_⟩
    dsimp only [v19, H2_ct16, belC, H2_ct28, worstC, H2_ct30, bestC, crsC, H2_ct36, lastC, r_end, r_end1, r_nil, r_op, r_opg, r_runOp, r_op0, r_yld0, r_yld1, r_y, r_rbeg, r_rend, r_rend1, r_rfrm, r_rfrm1, r_range, r_rangeK, r_rangeE, r_draw, r_dnil, r_dop, r_dopg, r_dplq, r_dplh, r_dq, r_dq0, r_dcl1, r_dcl0, r_dct1, r_dct0, r_dgd, r_dgq1, r_dgq0, r_dctG, r_op1, r_eff, r_eff0, r_call, r_call0, r_inl, r_g, r_gq, r_gc, r_effg, r_effg0, r_callg, r_callg0, r_fin, r_pre, r_imp, r_all, r_ex, r_fing, r_preg, r_exg, r_inBlock, r_inLoop, r_frame, r_frame1, r_skip, r_region, r_seq, r_cond, r_cond1, r_block, r_exit, r_exit1, r_exit2, r_ret, r_loop, s_args0, s_args1, s_xt, s_xc, padL, blankL, callee, callArgs, eff, ctOf, getL, setL, S.put, S.upd, unopts, unopt, unoptsO, unoptsB, lazyO, guardOf, gbool, eMov, eNot, eNeg, eConv, eExt, eLenArr, eLen, eLenStr, eEqb, eEqv, allEq, eNil, negIf, eBool2, eCmp, eAri, ari, eBit, eDiv, eSh, eMinMax, foldMin, foldMax, kEq, pure1, cmpB, VO.quiet, resVals, resVal, tupled, popRet, popTo, cond, Option.bind, Option.map, eNew, eBox, asCells, lenH, snocH, eFieldAddr, eField, eLoad, cellsAt, getH, setH, dropL, takeL, mkAgg, lenL, lenS, shift, shiftL, shiftH, viewN, viewL, view, andT, junks, List.append_nil, Nat.beq, eIdxAddr, eIdxArr, eIndex, eStore, storeAt, spliceL, ones, one, eSlice, eSliceArr, bounds, subLo, addLo, eMake, eAppend, readS, repL, buildCells, chunk, purgeL, purgeLL, purgeH, purge, refs, refsL, List.cons_append, List.nil_append, wrOps, wrAl, wrDops, wrC, junkAt, putAll, putHs, headOf, headK, keepG, List.append_eq, headX, chkP, apartP, apartB, blk, strip, runAl, yld, putPs, lenN, findR, notRound, jumpK, jumpPT, jcode, List.map_cons, List.map_nil, ite_self, reduceIte]
    simp only [true_and, and_true, imp_self, implies_true, decide_eq_true_eq, decide_eq_false_iff_not, Nat.reduceAdd, Nat.reduceLeDiff, Bool.not_not, reduceCtorEq, false_imp_iff, Bool.not_eq_true', Bool.not_eq_false', Bool.false_eq_true, and_self, forall_const, ne_eq, not_false_eq_true, Nat.reduceEqDiff]
    refine ⟨fun hb => ?_, fun hb => ⟨fun hc => ?_, fun hc => ?_⟩⟩
    · rw [lastsF, if_pos hb] at h
      exact ans_le (show k _ [] from h) (by simp [expo, view, viewL, le, leL]) (by simp [freshS, freshL])
    · rw [Bool.or_eq_true, decide_eq_true_eq, decide_eq_true_eq] at hc
      rw [lastsF, if_neg (by rw [hb]; simp), if_pos hc] at h
      exact ans_le (show k _ [] from h) (by simp [expo, view, viewL, le, leL]) (by simp [freshS, freshL])
    · rw [Bool.or_eq_false_iff, decide_eq_false_iff_not, decide_eq_false_iff_not] at hc
      have hne := fit_ne (fit_il hb)
      rw [lastsF, if_neg (by rw [hb]; simp), if_neg (by omega)] at h
      refine ⟨hne, by decide, by decide, hne, by decide, by decide, fun h2 => ?_, fun h2 => ?_⟩
      · rw [if_neg] at h
        · exact ans_le (show k _ [] from h) (by simp [expo, view, viewL, le, leL]) (by simp [freshS, freshL])
        · intro h3
          simp only [inOf, if_true, if_false, Bool.false_eq_true] at h2
          rw [h3.1, h3.2] at h2; cases h2
      · simp only [inOf, if_true, if_false, Bool.false_eq_true, Bool.or_eq_false_iff, Bool.not_eq_false'] at h2
        rw [if_pos h2] at h
        exact ans_le (show k _ [] from h) (by simp [expo, view, viewL, le, leL, inOf]) (by simp [freshS, freshL])
  · exact h.1.elim

theorem lasts20 : lastsC.ok Try.prog 20 := by
  refine contract Try.func20 v20_is H2_ok 400 lastsC fun args k h => ⟨args, ?_⟩
  simp only [lastsC, d1C] at h
  split at h
  · rename_i st lo hi il ih d
    refine ⟨by simp [leL, le], ?_⟩
    dsimp only [v20, H2_ct17, belC, H2_ct37, rlastC, r_end, r_end1, r_nil, r_op, r_opg, r_runOp, r_op0, r_yld0, r_yld1, r_y, r_rbeg, r_rend, r_rend1, r_rfrm, r_rfrm1, r_range, r_rangeK, r_rangeE, r_draw, r_dnil, r_dop, r_dopg, r_dplq, r_dplh, r_dq, r_dq0, r_dcl1, r_dcl0, r_dct1, r_dct0, r_dgd, r_dgq1, r_dgq0, r_dctG, r_op1, r_eff, r_eff0, r_call, r_call0, r_inl, r_g, r_gq, r_gc, r_effg, r_effg0, r_callg, r_callg0, r_fin, r_pre, r_imp, r_all, r_ex, r_fing, r_preg, r_exg, r_inBlock, r_inLoop, r_frame, r_frame1, r_skip, r_region, r_seq, r_cond, r_cond1, r_block, r_exit, r_exit1, r_exit2, r_ret, r_loop, s_args0, s_args1, s_xt, s_xc, padL, blankL, callee, callArgs, eff, ctOf, getL, setL, S.put, S.upd, unopts, unopt, unoptsO, unoptsB, lazyO, guardOf, gbool, eMov, eNot, eNeg, eConv, eExt, eLenArr, eLen, eLenStr, eEqb, eEqv, allEq, eNil, negIf, eBool2, eCmp, eAri, ari, eBit, eDiv, eSh, eMinMax, foldMin, foldMax, kEq, pure1, cmpB, VO.quiet, resVals, resVal, tupled, popRet, popTo, cond, Option.bind, Option.map, eNew, eBox, asCells, lenH, snocH, eFieldAddr, eField, eLoad, cellsAt, getH, setH, dropL, takeL, mkAgg, lenL, lenS, shift, shiftL, shiftH, viewN, viewL, view, andT, junks, List.append_nil, Nat.beq, eIdxAddr, eIdxArr, eIndex, eStore, storeAt, spliceL, ones, one, eSlice, eSliceArr, bounds, subLo, addLo, eMake, eAppend, readS, repL, buildCells, chunk, purgeL, purgeLL, purgeH, purge, refs, refsL, List.cons_append, List.nil_append, wrOps, wrAl, wrDops, wrC, junkAt, putAll, putHs, headOf, headK, keepG, List.append_eq, headX, chkP, apartP, apartB, blk, strip, runAl, yld, putPs, lenN, findR, notRound, jumpK, jumpPT, jcode, List.map_cons, List.map_nil, ite_self, reduceIte]
    simp only [true_and, and_true, imp_self, implies_true, decide_eq_true_eq, decide_eq_false_iff_not, Nat.reduceAdd, Nat.reduceLeDiff, Bool.not_not, reduceCtorEq, false_imp_iff, Bool.not_eq_true', Bool.not_eq_false', Bool.false_eq_true, and_self, forall_const, ne_eq, not_false_eq_true, Nat.reduceEqDiff]
    refine ⟨fun h0 h1 => by simp [h0, h1], fun hb => ⟨fun _ => ?_, fun h => absurd h (by decide)⟩, fun hb => ⟨fun hc => ?_, fun hc => ?_⟩⟩
    · rw [Bool.and_eq_true, Bool.or_eq_true, decide_eq_true_eq, decide_eq_true_eq, decide_eq_true_eq] at hb
      rw [lastsF, if_neg (by rw [hb.1]; simp), if_pos hb.2] at h
      exact ans_le (show k _ [] from h) (by simp [expo, view, viewL, le, leL]) (by simp [freshS, freshL])
    · rw [lastsF, if_pos hc] at h
      exact ans_le (show k _ [] from h) (by simp [expo, view, viewL, le, leL]) (by simp [freshS, freshL])
    · rw [hc, decide_eq_true rfl, Bool.true_and, Bool.or_eq_false_iff, decide_eq_false_iff_not, decide_eq_false_iff_not] at hb
      rw [lastsF, if_neg (by rw [hc]; simp), if_neg (by omega)] at h
      rw [rlast_2, rlast_2]
      refine ⟨⟨hc, fit_il hc, by omega, by omega⟩, by decide, by decide, ⟨hc, fit_ih hc, by omega, by omega⟩, by decide, by decide, fun h2 => ?_, fun h2 => ?_⟩
      · rw [if_neg] at h
        · exact ans_le (show k _ [] from h) (by simp [expo, view, viewL, le, leL]) (by simp [freshS, freshL])
        · intro h3
          simp only at h3
          rw [h3.1, h3.2] at h2; cases h2
      · simp only [Bool.or_eq_false_iff, Bool.not_eq_false'] at h2
        rw [if_pos h2] at h
        rw [rlast_ok h2.1, rlast_ok h2.2]
        exact ans_le (show k _ [] from h) (by simp [expo, view, viewL, le, leL]) (by simp [freshS, freshL])
  · exact h.1.elim
end Go.Proofs.Ytliipeebknljdaa
