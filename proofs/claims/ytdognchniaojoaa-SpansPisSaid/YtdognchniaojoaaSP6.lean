/- Intervals, walked: the reference's Scale, Pi. -/
import Derived.Test.YtdognchniaojoaaSP5
set_option linter.all false
namespace Go.Proofs.Ytdognchniaojoaa
open Go Go.Vx
set_option maxRecDepth 100000
set_option maxHeartbeats 4000000

def v11 : VF := { ntmps := 63, res := [.cell 6 true 2, .tmp 7], body :=
 (.seq (.region [⟨(some 3), none, .box, [.tm 0]⟩,
  ⟨(some 6), none, (.alloc [(.int .i64 0), (.int .i64 0)]), []⟩,
  ⟨(some 7), none, .mov, [.cn (.int .i64 0)]⟩])
 (.seq (.region [⟨(some 14), none, (.load true 2), [.tm 3]⟩,
  ⟨(some 15), none, (.call 33), [.tm 14]⟩,
  ⟨(some 8), none, .mov, [.tm 15]⟩])
 (.seq (.seq (.region [⟨(some 16), none, .mov, [.tm 8]⟩,
  ⟨(some 17), none, (.cmp .eql), [.tm 16, .cn (.int .i64 0)]⟩,
  ⟨(some 18), none, .mov, [.tm 17]⟩,
  ⟨(some 19), (some (18, true)), .mov, [.tm 2]⟩,
  ⟨(some 20), (some (18, true)), (.cmp .lss), [.tm 19, .cn (.int .i64 1)]⟩,
  ⟨(some 21), (some (18, true)), .mov, [.tm 20]⟩,
  ⟨(some 22), (some (21, false)), .mov, [.tm 2]⟩,
  ⟨(some 23), (some (21, false)), (.cmp .gtr), [.tm 22, .cn (.int .i64 4611686018427387904)]⟩,
  ⟨(some 24), (some (18, true)), .or, [.tm 21, .tm 23]⟩,
  ⟨(some 25), (some (18, true)), .mov, [.tm 24]⟩,
  ⟨(some 26), (some (25, false)), .mov, [.tm 1]⟩,
  ⟨(some 27), (some (25, false)), (.cmp .lss), [.tm 26, .cn (.int .i64 (-4611686018427387904))]⟩,
  ⟨(some 28), (some (18, true)), .or, [.tm 25, .tm 27]⟩,
  ⟨(some 29), (some (18, true)), .mov, [.tm 28]⟩,
  ⟨(some 30), (some (29, false)), .mov, [.tm 1]⟩,
  ⟨(some 31), (some (29, false)), (.cmp .gtr), [.tm 30, .cn (.int .i64 4611686018427387904)]⟩,
  ⟨(some 32), (some (18, true)), .or, [.tm 29, .tm 31]⟩,
  ⟨(some 33), none, .and, [.tm 18, .tm 32]⟩])
 (.cond (.tm 33) (.region [⟨(some 8), none, .mov, [.cn (.int .i64 2)]⟩])
  .skip))
 (.seq (.seq (.region [⟨(some 34), none, .mov, [.tm 8]⟩,
  ⟨(some 35), none, (.cmp .neq), [.tm 34, .cn (.int .i64 0)]⟩])
 (.cond (.tm 35) (.seq (.region [⟨(some 36), none, (.build [(.int .i64 0), (.int .i64 0)] []), []⟩,
  ⟨(some 37), none, .mov, [.tm 8]⟩,
  ⟨none, none, (.store 2), [.tm 6, .tm 36]⟩,
  ⟨(some 7), none, .mov, [.tm 37]⟩])
 .ret)
  .skip))
 (.seq (.region [⟨(some 38), none, .mov, [.tm 1]⟩,
  ⟨(some 39), none, .mov, [.tm 2]⟩,
  ⟨(some 40), none, (.call 46), [.tm 38, .tm 39]⟩,
  ⟨(some 9), none, (.alloc [(.bool false), .nil, .nil]), []⟩,
  ⟨none, none, (.store 3), [.tm 9, .tm 40]⟩])
 (.seq (.draw [(10, .box [(.bool false), .nil, .nil])] [⟨⟨(some 42), none, (.fieldAddr 0), [.tm 3]⟩, []⟩,
  ⟨⟨(some 43), none, (.load false 1), [.tm 42]⟩, []⟩,
  ⟨⟨(some 45), none, (.load true 3), [.tm 9]⟩, []⟩,
  ⟨⟨(some 44), none, (.call 48), [.tm 43]⟩, []⟩,
  ⟨⟨(some 46), none, (.call 47), [.tm 44, .tm 45]⟩, []⟩,
  ⟨⟨(some 41), none, .mov, [.tm 46]⟩, []⟩,
  ⟨⟨(some 47), none, (.ext 0), [.tm 41]⟩, []⟩,
  ⟨⟨(some 48), none, (.ext 1), [.tm 41]⟩, []⟩,
  ⟨⟨none, none, (.store 3), [.tm 10, .tm 47]⟩, []⟩,
  ⟨⟨(some 11), none, .mov, [.tm 48]⟩, []⟩])
 (.seq (.draw [(12, .box [(.bool false), .nil, .nil])] [⟨⟨(some 50), none, (.fieldAddr 1), [.tm 3]⟩, []⟩,
  ⟨⟨(some 51), none, (.load false 1), [.tm 50]⟩, []⟩,
  ⟨⟨(some 53), none, (.load true 3), [.tm 9]⟩, []⟩,
  ⟨⟨(some 52), none, (.call 48), [.tm 51]⟩, []⟩,
  ⟨⟨(some 54), none, (.call 47), [.tm 52, .tm 53]⟩, []⟩,
  ⟨⟨(some 49), none, .mov, [.tm 54]⟩, []⟩,
  ⟨⟨(some 55), none, (.ext 0), [.tm 49]⟩, []⟩,
  ⟨⟨(some 56), none, (.ext 1), [.tm 49]⟩, []⟩,
  ⟨⟨none, none, (.store 3), [.tm 12, .tm 55]⟩, []⟩,
  ⟨⟨(some 13), none, .mov, [.tm 56]⟩, []⟩])
 (.seq (.region [⟨(some 57), none, (.load true 3), [.tm 10]⟩,
  ⟨(some 58), none, (.load true 3), [.tm 12]⟩,
  ⟨(some 59), none, (.buildSlice 3 2 [(.bool false), .nil, .nil] [(0, 3), (3, 3)]), [.tm 57, .tm 58]⟩,
  ⟨(some 60), none, (.call 49), [.tm 59]⟩,
  ⟨(some 61), none, (.ext 0), [.tm 60]⟩,
  ⟨(some 62), none, (.ext 1), [.tm 60]⟩,
  ⟨none, none, (.store 2), [.tm 6, .tm 61]⟩,
  ⟨(some 7), none, .mov, [.tm 62]⟩])
 .ret)))))))) }
theorem v11_is : vfunc Try.prog Try.f11 = some v11 := by kernel_rfl
def v59 : VF := { ntmps := 39, res := [.tmp 2], body :=
 (.seq (.region [⟨(some 2), none, .mov, [.cn .nil]⟩])
 (.seq (.region [⟨(some 3), none, .mov, [.cn .nil]⟩])
 (.seq (.seq (.region [⟨(some 4), none, .mov, [.cn (.int .i64 0)]⟩])
 (.block 0 (.loop (.seq (.seq (.region [⟨(some 9), none, .mov, [.tm 4]⟩,
  ⟨(some 10), none, .mov, [.tm 0]⟩,
  ⟨(some 11), none, .len, [.tm 10]⟩,
  ⟨(some 12), none, (.cmp .lss), [.tm 9, .tm 11]⟩])
 (.cond (.tm 12) .skip
  (.exit 0)))
 (.seq (.block 1 (.seq (.draw [(5, .box [(.bool false), .nil, .nil])] [⟨⟨(some 16), none, .mov, [.tm 0]⟩, []⟩,
  ⟨⟨(some 17), none, .mov, [.tm 4]⟩, []⟩,
  ⟨⟨(some 18), none, (.idxAddr 3), [.tm 16, .tm 17]⟩, []⟩,
  ⟨⟨(some 19), none, (.load true 3), [.tm 18]⟩, []⟩,
  ⟨⟨(some 20), none, (.call 46), [.cn (.int .i64 3141592653589793238), .cn (.int .i64 1000000000000000000)]⟩, []⟩,
  ⟨⟨(some 21), none, (.call 47), [.tm 19, .tm 20]⟩, []⟩,
  ⟨⟨(some 15), none, .mov, [.tm 21]⟩, []⟩,
  ⟨⟨(some 22), none, (.ext 0), [.tm 15]⟩, []⟩,
  ⟨⟨(some 23), none, (.ext 1), [.tm 15]⟩, []⟩,
  ⟨⟨none, none, (.store 3), [.tm 5, .tm 22]⟩, []⟩,
  ⟨⟨(some 6), none, .mov, [.tm 23]⟩, []⟩])
 (.seq (.draw [(7, .box [(.bool false), .nil, .nil])] [⟨⟨(some 25), none, .mov, [.tm 0]⟩, []⟩,
  ⟨⟨(some 26), none, .mov, [.tm 4]⟩, []⟩,
  ⟨⟨(some 27), none, (.idxAddr 3), [.tm 25, .tm 26]⟩, []⟩,
  ⟨⟨(some 28), none, (.load true 3), [.tm 27]⟩, []⟩,
  ⟨⟨(some 29), none, (.call 46), [.cn (.int .i64 3141592653589793239), .cn (.int .i64 1000000000000000000)]⟩, []⟩,
  ⟨⟨(some 30), none, (.call 47), [.tm 28, .tm 29]⟩, []⟩,
  ⟨⟨(some 24), none, .mov, [.tm 30]⟩, []⟩,
  ⟨⟨(some 31), none, (.ext 0), [.tm 24]⟩, []⟩,
  ⟨⟨(some 32), none, (.ext 1), [.tm 24]⟩, []⟩,
  ⟨⟨none, none, (.store 3), [.tm 7, .tm 31]⟩, []⟩,
  ⟨⟨(some 8), none, .mov, [.tm 32]⟩, []⟩])
 (.region [⟨(some 33), none, .mov, [.tm 3]⟩,
  ⟨(some 34), none, (.load true 3), [.tm 5]⟩,
  ⟨(some 35), none, (.load true 3), [.tm 7]⟩,
  ⟨(some 36), none, (.buildSlice 3 2 [(.bool false), .nil, .nil] [(0, 3), (3, 3)]), [.tm 34, .tm 35]⟩,
  ⟨(some 37), none, (.append 3 56 [(.bool false), .nil, .nil]), [.tm 33, .tm 36]⟩,
  ⟨(some 3), none, .mov, [.tm 37]⟩]))))
 (.region [⟨(some 13), none, .mov, [.tm 4]⟩,
  ⟨(some 14), none, (.ari .add), [.tm 13, .cn (.int .i64 1)]⟩,
  ⟨(some 4), none, .mov, [.tm 14]⟩]))))))
 (.seq (.region [⟨(some 38), none, .mov, [.tm 3]⟩,
  ⟨(some 2), none, .mov, [.tm 38]⟩])
 .ret)))) }
theorem v59_is : vfunc Try.prog Try.f59 = some v59 := by kernel_rfl
def v18 : VF := { ntmps := 22, res := [.cell 2 true 2, .tmp 3], body :=
 (.seq (.region [⟨(some 1), none, .box, [.tm 0]⟩,
  ⟨(some 2), none, (.alloc [(.int .i64 0), (.int .i64 0)]), []⟩,
  ⟨(some 3), none, .mov, [.cn (.int .i64 0)]⟩])
 (.seq (.region [⟨(some 5), none, (.load true 2), [.tm 1]⟩,
  ⟨(some 6), none, (.call 33), [.tm 5]⟩,
  ⟨(some 4), none, .mov, [.tm 6]⟩])
 (.seq (.seq (.region [⟨(some 7), none, .mov, [.tm 4]⟩,
  ⟨(some 8), none, (.cmp .neq), [.tm 7, .cn (.int .i64 0)]⟩])
 (.cond (.tm 8) (.seq (.region [⟨(some 9), none, (.build [(.int .i64 0), (.int .i64 0)] []), []⟩,
  ⟨(some 10), none, .mov, [.tm 4]⟩,
  ⟨none, none, (.store 2), [.tm 2, .tm 9]⟩,
  ⟨(some 3), none, .mov, [.tm 10]⟩])
 .ret)
  .skip))
 (.seq (.draw [] [⟨⟨(some 11), none, (.fieldAddr 0), [.tm 1]⟩, []⟩,
  ⟨⟨(some 12), none, (.load false 1), [.tm 11]⟩, []⟩,
  ⟨⟨(some 14), none, (.fieldAddr 1), [.tm 1]⟩, []⟩,
  ⟨⟨(some 15), none, (.load false 1), [.tm 14]⟩, []⟩,
  ⟨⟨(some 13), none, (.call 48), [.tm 12]⟩, []⟩,
  ⟨⟨(some 16), none, (.call 48), [.tm 15]⟩, []⟩,
  ⟨⟨(some 17), none, (.buildSlice 3 2 [(.bool false), .nil, .nil] [(0, 3), (3, 3)]), [.tm 13, .tm 16]⟩, []⟩,
  ⟨⟨(some 18), none, (.call 59), [.tm 17]⟩, []⟩,
  ⟨⟨(some 19), none, (.call 49), [.tm 18]⟩, []⟩,
  ⟨⟨(some 20), none, (.ext 0), [.tm 19]⟩, []⟩,
  ⟨⟨(some 21), none, (.ext 1), [.tm 19]⟩, []⟩,
  ⟨⟨none, none, (.store 2), [.tm 2, .tm 20]⟩, []⟩,
  ⟨⟨(some 3), none, .mov, [.tm 21]⟩, []⟩])
 .ret)))) }
theorem v18_is : vfunc Try.prog Try.f18 = some v18 := by kernel_rfl


def S4 : Env := { ct := fun n => match n with | 33 => some iv1C | 48 => some quoiC | 46 => some ofrC | 47 => some qmulC | 49 => some spanqC | _ => none, fn := fun _ => none, meth := fun _ _ => none }
theorem S4_ct33 : S4.ct 33 = some iv1C := rfl
theorem S4_ct48 : S4.ct 48 = some quoiC := rfl
theorem S4_ct46 : S4.ct 46 = some ofrC := rfl
theorem S4_ct47 : S4.ct 47 = some qmulC := rfl
theorem S4_ct49 : S4.ct 49 = some spanqC := rfl
theorem S4_ok : EnvOk Try.prog S4 := by
  refine ⟨fun f c h => ?_, fun f vf h => ?_, fun _ _ => rfl, by kernel_rfl⟩
  · simp only [S4] at h
    split at h
    · cases h; exact ⟨rcheck_ok, Try.f33, Try.func33, by kernel_rfl, by kernel_rfl⟩
    · cases h; exact ⟨quoi_ok, Try.f48, Try.func48, by kernel_rfl, by kernel_rfl⟩
    · cases h; exact ⟨ofr_ok, Try.f46, Try.func46, by kernel_rfl, by kernel_rfl⟩
    · cases h; exact ⟨qmul_ok, Try.f47, Try.func47, by kernel_rfl, by kernel_rfl⟩
    · cases h; exact ⟨spanq_ok, Try.f49, Try.func49, by kernel_rfl, by kernel_rfl⟩
    · cases h
  · cases h


theorem frX (p : Fr) : leXL (encF true p) (encF false p) :=
  ⟨rfl, ⟨fun _ => rfl, rfl, rfl, rfl, fun k _ => leXL_self _⟩, ⟨fun _ => rfl, rfl, rfl, rfl, fun k _ => leXL_self _⟩, trivial⟩

theorem rscl_ok : sclC.ok Try.prog 11 := by
  refine contract Try.func11 v11_is S4_ok 400 sclC fun args k h => ⟨args, ?_⟩
  simp only [sclC] at h
  split at h
  · rename_i x y n d
    refine ⟨by simp [leL, le], ?_⟩
    dsimp only [v11, S4_ct33, S4_ct48, S4_ct46, S4_ct47, S4_ct49, iv1C, quoiC, ofrC, qmulC, spanqC, enc2, encF, natV, r_end, r_end1, r_nil, r_op, r_opg, r_runOp, r_op0, r_yld0, r_yld1, r_y, r_rbeg, r_rend, r_rend1, r_rfrm, r_rfrm1, r_range, r_rangeK, r_rangeE, r_draw, r_dnil, r_dop, r_dopg, r_dplq, r_dplh, r_dq, r_dq0, r_dcl1, r_dcl0, r_dct1, r_dct0, r_dgd, r_dgq1, r_dgq0, r_dctG, r_op1, r_eff, r_eff0, r_call, r_call0, r_inl, r_g, r_gq, r_gc, r_effg, r_effg0, r_callg, r_callg0, r_fin, r_pre, r_imp, r_all, r_ex, r_fing, r_preg, r_exg, r_inBlock, r_inLoop, r_frame, r_frame1, r_skip, r_stuck, r_region, r_seq, r_cond, r_cond1, r_block, r_exit, r_exit1, r_exit2, r_ret, r_loop, s_args0, s_args1, s_xt, s_xc, padL, blankL, callee, callArgs, eff, ctOf, getL, setL, S.put, S.upd, unopts, unopt, unoptsO, unoptsB, lazyO, guardOf, gbool, eMov, eNot, eNeg, eConv, eExt, eLenArr, eLen, eLenStr, eEqb, eEqv, allEq, eNil, negIf, eBool2, eCmp, eAri, ari, eBit, eDiv, eSh, eMinMax, foldMin, foldMax, kEq, pure1, cmpB, VO.quiet, resVals, resVal, tupled, popRet, popTo, cond, Option.bind, Option.map, eNew, eBox, asCells, lenH, snocH, eFieldAddr, eField, eLoad, cellsAt, getH, setH, dropL, takeL, mkAgg, lenL, lenS, shift, shiftL, shiftH, viewN, viewL, view, andT, junks, List.append_nil, Nat.beq, eIdxAddr, eIdxArr, idxN_0, idxN_1, idxN_2, idxN_3, eIndex, eStore, storeAt, spliceL, ones, one, eSlice, eSliceArr, bounds, subLo_z, addLo_z, subLo_one, addLo_one, eMake, eAppend, readS, repL, buildCells, chunk, purgeL, purgeLL, purgeH, purge, refs, refsL, List.cons_append, List.nil_append, wrOps, wrAl, wrDops, wrC, junkAt, putAll, putHs, headOf, headK, keepG, List.append_eq, headX, chkP, apartP, apartB, blk, strip, runAl, AL.ho, yld, putPs, lenN, findR, notRound, jumpK, jumpPT, jcode, List.map_cons, List.map_nil, ite_self, reduceIte]
    simp only [true_and, and_true, imp_self, implies_true, decide_eq_true_eq, decide_eq_false_iff_not, Nat.reduceAdd, Nat.reduceLeDiff, Bool.not_not, reduceCtorEq, false_imp_iff, Bool.not_eq_true', Bool.not_eq_false', Bool.false_eq_true, and_self, forall_const, ne_eq, not_false_eq_true, Nat.reduceEqDiff]
    have h : k (.tup [.agg (enc2 (sclF (x, y) n d).1), .int .i64 (sclF (x, y) n d).2]) [] := h
    refine ⟨fun a b => by simp [a, b], fun a b => by rw [b]; simp [a], fun a b => by rw [b]; simp [a], fun hb => ⟨fun _ => ?_, fun h2 => absurd h2 (by decide)⟩, fun hb => ⟨fun he => ?_, fun he => ?_⟩⟩
    · simp only [Bool.and_eq_true, Bool.or_eq_true, decide_eq_true_eq] at hb
      rw [sclF, if_neg (by omega), if_pos (by omega)] at h
      exact ans_iv h
    · rw [sclF, if_pos he] at h
      exact ans_iv h
    · have hb' : ¬ (d < 1 ∨ 4611686018427387904 < d ∨ n < -4611686018427387904 ∨ 4611686018427387904 < n) := by
        intro hh
        have : (decide (ivE [(x, y)] = 0) && (decide (d < 1) || decide (4611686018427387904 < d) || decide (n < -4611686018427387904) || decide (4611686018427387904 < n))) = true := by
          simp only [Bool.and_eq_true, Bool.or_eq_true, decide_eq_true_eq]; omega
        rw [this] at hb; cases hb
      rw [sclF, if_neg (by omega), if_neg hb'] at h
      obtain ⟨hx, hy, hxy⟩ := ivE1 he
      have m1 := mul_bnd (M := 4611686018427387904) (N := 4611686018427387904) hx (show -4611686018427387904 ≤ n ∧ n ≤ 4611686018427387904 by omega)
      have m2 := mul_bnd (M := 4611686018427387904) (N := 4611686018427387904) hy (show -4611686018427387904 ≤ n ∧ n ≤ 4611686018427387904 by omega)
      dsimp only at hx hy m1 m2
      have hq : frOk (n, d.toNat) := frOk_8 (by dsimp only; omega) (by dsimp only; omega) (by dsimp only; omega)
      have hp1 : frOk (x * n, 1 * d.toNat) := frOk_8 (by dsimp only; omega) (by dsimp only; omega) (by dsimp only; omega)
      have hp2 : frOk (y * n, 1 * d.toNat) := frOk_8 (by dsimp only; omega) (by dsimp only; omega) (by dsimp only; omega)
      refine ⟨⟨by omega, by omega⟩, hx, (x, 1), (n, d.toNat), ⟨fracP_self (frOk_1 hx), fracP_self hq, hp1⟩, by decide, by decide, hy, (y, 1), (n, d.toNat), ⟨fracP_self (frOk_1 hy), fracP_self hq, hp2⟩, by decide, by decide, by decide,
        (x * n, 1 * d.toNat), [(y * n, 1 * d.toNat)], ⟨⟨rfl, rfl, fun k hk => match k, hk with | 0, _ => leXL_self (encF false (x * n, 1 * d.toNat)) | 1, _ => leXL_self (encF false (y * n, 1 * d.toNat))⟩, by simp, list2 hp1 hp2⟩, ?_⟩
      have e := spanQ_one (d := 1 * d.toNat) (by omega) (x * n) [y * n]
      have e2 : ((1 * d.toNat : Nat) : Int) = d := by omega
      rw [e2] at e
      have e3 : spanQ (x * n, 1 * d.toNat) [(y * n, 1 * d.toNat)] = spanI d (x * n) [y * n] := e
      rw [e3]
      exact ⟨by decide, by decide, ans_iv h⟩
  · exact h.1.elim

/-! ### Both bounds of pi -/

def pisF (l : List Fr) : List Fr := l.flatMap fun p => [(p.1 * 3141592653589793238, p.2 * 1000000000000000000), (p.1 * 3141592653589793239, p.2 * 1000000000000000000)]
theorem pisF_len (l : List Fr) : (pisF l).length = 2 * l.length := by
  induction l with
  | nil => rfl
  | cons a l ih =>
    have e : pisF (a :: l) = (a.1 * 3141592653589793238, a.2 * 1000000000000000000) :: (a.1 * 3141592653589793239, a.2 * 1000000000000000000) :: pisF l := rfl
    rw [e, List.length_cons, List.length_cons, ih, List.length_cons]; omega
theorem pisF_get : ∀ (l : List Fr) (i : Nat), i < l.length → (pisF l).getD (2 * i) default = ((l.getD i default).1 * 3141592653589793238, (l.getD i default).2 * 1000000000000000000) ∧ (pisF l).getD (2 * i + 1) default = ((l.getD i default).1 * 3141592653589793239, (l.getD i default).2 * 1000000000000000000)
  | [], _, h => absurd h (Nat.not_lt_zero _)
  | a :: l, 0, _ => ⟨rfl, rfl⟩
  | a :: l, i + 1, h => by
    have e : pisF (a :: l) = (a.1 * 3141592653589793238, a.2 * 1000000000000000000) :: (a.1 * 3141592653589793239, a.2 * 1000000000000000000) :: pisF l := rfl
    have ih := pisF_get l i (by simpa using h)
    rw [e, show 2 * (i + 1) = 2 * i + 2 by omega]
    exact ih
def frsR (l : List Fr) : SV := .vs true (decide (l.length = 0)) l.length 3 (fun k => encF true (l.getD k default))
def pisC : Ctr := { alias := false, of := fun l => match l with
  | [.vs _ _ n sz get] => .ex (List Fr) fun l => .pre (lsP 3 (encF false) n sz get l ∧ l.length ≤ 100 ∧ (∀ p ∈ l, frOk p) ∧ ∀ p ∈ pisF l, frOk p) (.fin (frsR (pisF l)) [])
  | _ => noC }

theorem pis_ok : pisC.ok Try.prog 59 := by
  refine contract Try.func59 v59_is S4_ok 400 pisC fun args k h => ?_
  simp only [pisC] at h
  split at h
  · rename_i tt z n sz get
    obtain ⟨l, ⟨⟨rfl, rfl, hg⟩, hmax, hall, hpis⟩, h⟩ := h
    refine ⟨[.vs tt z l.length 3 (fun k => encF false (l.getD k default))], ⟨by simpa [le] using hg, trivial⟩, ?_⟩
    dsimp only [v59, encF, natV, r_end, r_end1, r_nil, r_op, r_opg, r_runOp, r_op0, r_yld0, r_yld1, r_y, r_rbeg, r_rend, r_rend1, r_rfrm, r_rfrm1, r_range, r_rangeK, r_rangeE, r_draw, r_dnil, r_dop, r_dopg, r_dplq, r_dplh, r_dq, r_dq0, r_dcl1, r_dcl0, r_dct1, r_dct0, r_dgd, r_dgq1, r_dgq0, r_dctG, r_op1, r_eff, r_eff0, r_call, r_call0, r_inl, r_g, r_gq, r_gc, r_effg, r_effg0, r_callg, r_callg0, r_fin, r_pre, r_imp, r_all, r_ex, r_fing, r_preg, r_exg, r_inBlock, r_inLoop, r_frame, r_frame1, r_skip, r_stuck, r_region, r_seq, r_cond, r_cond1, r_block, r_exit, r_exit1, r_exit2, r_ret, r_loop, s_args0, s_args1, s_xt, s_xc, padL, blankL, callee, callArgs, eff, ctOf, getL, setL, S.put, S.upd, unopts, unopt, unoptsO, unoptsB, lazyO, guardOf, gbool, eMov, eNot, eNeg, eConv, eExt, eLenArr, eLen, eLenStr, eEqb, eEqv, allEq, eNil, negIf, eBool2, eCmp, eAri, ari, eBit, eDiv, eSh, eMinMax, foldMin, foldMax, kEq, pure1, cmpB, VO.quiet, resVals, resVal, tupled, popRet, popTo, cond, Option.bind, Option.map, eNew, eBox, asCells, lenH, snocH, eFieldAddr, eField, eLoad, cellsAt, getH, setH, dropL, takeL, mkAgg, lenL, lenS, shift, shiftL, shiftH, viewN, viewL, view, andT, junks, List.append_nil, Nat.beq, eIdxAddr, eIdxArr, idxN_0, idxN_1, idxN_2, idxN_3, eIndex, eStore, storeAt, spliceL, ones, one, eSlice, eSliceArr, bounds, subLo_z, addLo_z, subLo_one, addLo_one, eMake, eAppend, readS, repL, buildCells, chunk, purgeL, purgeLL, purgeH, purge, refs, refsL, List.cons_append, List.nil_append, wrOps, wrAl, wrDops, wrC, junkAt, putAll, putHs, headOf, headK, keepG, List.append_eq, headX, chkP, apartP, apartB, blk, strip, runAl, AL.ho, yld, putPs, lenN, findR, notRound, jumpK, jumpPT, jcode, List.map_cons, List.map_nil, ite_self, reduceIte]
    simp only [true_and, and_true, imp_self, implies_true, decide_eq_true_eq, decide_eq_false_iff_not, Nat.reduceAdd, Nat.reduceLeDiff, Bool.not_not, reduceCtorEq, false_imp_iff, Bool.not_eq_true', Bool.not_eq_false', Bool.false_eq_true, and_self, forall_const, ne_eq, not_false_eq_true, Nat.reduceEqDiff]
    refine Loop.keep [0, 1, 0, 0] Nat (fun i => [(3, .own 0 0 (2 * i) 3), (4, .int .i64 i)]) (fun i => [(0, .own (decide (i = 0)) 3 (2 * i) (fun k => encF true ((pisF l).getD k default)))]) [.gone] (fun i => i ≤ l.length) (fun i => l.length - i) ?_ ?_
    · refine ⟨0, Nat.zero_le _, ?_⟩
      dsimp only [r_end, r_end1, r_nil, r_op, r_opg, r_runOp, r_op0, r_yld0, r_yld1, r_y, r_rbeg, r_rend, r_rend1, r_rfrm, r_rfrm1, r_range, r_rangeK, r_rangeE, r_draw, r_dnil, r_dop, r_dopg, r_dplq, r_dplh, r_dq, r_dq0, r_dcl1, r_dcl0, r_dct1, r_dct0, r_dgd, r_dgq1, r_dgq0, r_dctG, r_op1, r_eff, r_eff0, r_call, r_call0, r_inl, r_g, r_gq, r_gc, r_effg, r_effg0, r_callg, r_callg0, r_fin, r_pre, r_imp, r_all, r_ex, r_fing, r_preg, r_exg, r_inBlock, r_inLoop, r_frame, r_frame1, r_skip, r_stuck, r_region, r_seq, r_cond, r_cond1, r_block, r_exit, r_exit1, r_exit2, r_ret, r_loop, s_args0, s_args1, s_xt, s_xc, padL, blankL, callee, callArgs, eff, ctOf, getL, setL, S.put, S.upd, unopts, unopt, unoptsO, unoptsB, lazyO, guardOf, gbool, eMov, eNot, eNeg, eConv, eExt, eLenArr, eLen, eLenStr, eEqb, eEqv, allEq, eNil, negIf, eBool2, eCmp, eAri, ari, eBit, eDiv, eSh, eMinMax, foldMin, foldMax, kEq, pure1, cmpB, VO.quiet, resVals, resVal, tupled, popRet, popTo, cond, Option.bind, Option.map, eNew, eBox, asCells, lenH, snocH, eFieldAddr, eField, eLoad, cellsAt, getH, setH, dropL, takeL, mkAgg, lenL, lenS, shift, shiftL, shiftH, viewN, viewL, view, andT, junks, List.append_nil, Nat.beq, eIdxAddr, eIdxArr, idxN_0, idxN_1, idxN_2, idxN_3, eIndex, eStore, storeAt, spliceL, ones, one, eSlice, eSliceArr, bounds, subLo_z, addLo_z, subLo_one, addLo_one, eMake, eAppend, readS, repL, buildCells, chunk, purgeL, purgeLL, purgeH, purge, refs, refsL, List.cons_append, List.nil_append, wrOps, wrAl, wrDops, wrC, junkAt, putAll, putHs, headOf, headK, keepG, List.append_eq, headX, chkP, apartP, apartB, blk, strip, runAl, AL.ho, yld, putPs, lenN, findR, notRound, jumpK, jumpPT, jcode, List.map_cons, List.map_nil, ite_self, reduceIte]
      simp only [leS_mk, leL_cons, leL_nil, le_junk, le_int, le_bool, le_nil, leLL_nil, leLL_cons, leH_cons, leH_nil, leH1_box, leH1_own, leH1_gone, le_vs, le_agg, le_tup, le_ptr, le_own, le_xp, le_fn, le_opt, le_val, le_elem, le_nil_own, le_nil_vs, leH_ghost, leL_chunk, leXL_id, bnd_int, bnd_bool, bnd_val, bnd_nil, bnd_junk, bnd_vs, bnd_xp, bnd_agg, bnd_tup, bnd_ptr, bnd_own, bnd_elem, bnd_fn, bnd_iface, bnd_opt, bndL_nil, bndL_cons, lenH_cons, lenH_nil, imp_self, implies_true, true_and, and_true]
      simp
    · rintro i hi
      dsimp only [S4_ct46, S4_ct47, ofrC, qmulC, encF, natV, Int.toNat_natCast, r_end, r_end1, r_nil, r_op, r_opg, r_runOp, r_op0, r_yld0, r_yld1, r_y, r_rbeg, r_rend, r_rend1, r_rfrm, r_rfrm1, r_range, r_rangeK, r_rangeE, r_draw, r_dnil, r_dop, r_dopg, r_dplq, r_dplh, r_dq, r_dq0, r_dcl1, r_dcl0, r_dct1, r_dct0, r_dgd, r_dgq1, r_dgq0, r_dctG, r_op1, r_eff, r_eff0, r_call, r_call0, r_inl, r_g, r_gq, r_gc, r_effg, r_effg0, r_callg, r_callg0, r_fin, r_pre, r_imp, r_all, r_ex, r_fing, r_preg, r_exg, r_inBlock, r_inLoop, r_frame, r_frame1, r_skip, r_stuck, r_region, r_seq, r_cond, r_cond1, r_block, r_exit, r_exit1, r_exit2, r_ret, r_loop, s_args0, s_args1, s_xt, s_xc, padL, blankL, callee, callArgs, eff, ctOf, getL, setL, S.put, S.upd, unopts, unopt, unoptsO, unoptsB, lazyO, guardOf, gbool, eMov, eNot, eNeg, eConv, eExt, eLenArr, eLen, eLenStr, eEqb, eEqv, allEq, eNil, negIf, eBool2, eCmp, eAri, ari, eBit, eDiv, eSh, eMinMax, foldMin, foldMax, kEq, pure1, cmpB, VO.quiet, resVals, resVal, tupled, popRet, popTo, cond, Option.bind, Option.map, eNew, eBox, asCells, lenH, snocH, eFieldAddr, eField, eLoad, cellsAt, getH, setH, dropL, takeL, mkAgg, lenL, lenS, shift, shiftL, shiftH, viewN, viewL, view, andT, junks, List.append_nil, Nat.beq, eIdxAddr, eIdxArr, idxN_0, idxN_1, idxN_2, idxN_3, eIndex, eStore, storeAt, spliceL, ones, one, eSlice, eSliceArr, bounds, subLo_z, addLo_z, subLo_one, addLo_one, eMake, eAppend, readS, repL, buildCells, chunk, purgeL, purgeLL, purgeH, purge, refs, refsL, List.cons_append, List.nil_append, wrOps, wrAl, wrDops, wrC, junkAt, putAll, putHs, headOf, headK, keepG, List.append_eq, headX, chkP, apartP, apartB, blk, strip, runAl, AL.ho, yld, putPs, lenN, findR, notRound, jumpK, jumpPT, jcode, List.map_cons, List.map_nil, ite_self, reduceIte]
      simp only [true_and, and_true, imp_self, implies_true, decide_eq_true_eq, decide_eq_false_iff_not, Nat.reduceAdd, Nat.reduceLeDiff, Bool.not_not, reduceCtorEq, false_imp_iff, Bool.not_eq_true', Bool.not_eq_false', Bool.false_eq_true, and_self, forall_const, ne_eq, not_false_eq_true, Nat.reduceEqDiff]
      have eT : Int.toNat 1000000000000000000 = 1000000000000000000 := rfl
      simp only [eT]
      refine ⟨fun hlt => ?_, fun hge => ?_⟩
      · have hi' : i < l.length := by omega
        have hp : frOk (l.getD i default) := hall _ (getD_mem hi')
        have hc1 : frOk (3141592653589793238, 1000000000000000000) := frOk_8 (show 0 < 1000000000000000000 by decide) (show Int.natAbs 3141592653589793238 < 4294967296 ^ 8 by decide) (show 1000000000000000000 < 4294967296 ^ 8 by decide)
        have hc2 : frOk (3141592653589793239, 1000000000000000000) := frOk_8 (show 0 < 1000000000000000000 by decide) (show Int.natAbs 3141592653589793239 < 4294967296 ^ 8 by decide) (show 1000000000000000000 < 4294967296 ^ 8 by decide)
        have hg2 := pisF_get l i hi'
        have hr1 : frOk ((l.getD i default).1 * 3141592653589793238, (l.getD i default).2 * 1000000000000000000) := by
          rw [← hg2.1]; exact hpis _ (getD_mem (by rw [pisF_len]; omega))
        have hr2 : frOk ((l.getD i default).1 * 3141592653589793239, (l.getD i default).2 * 1000000000000000000) := by
          rw [← hg2.2]; exact hpis _ (getD_mem (by rw [pisF_len]; omega))
        refine ⟨⟨by omega, by omega⟩, ⟨⟨by decide, by decide⟩, by decide, by decide⟩, l.getD i default, (3141592653589793238, 1000000000000000000), ⟨fracP_self hp, fracP_self hc1, hr1⟩, by decide, by decide,
          ⟨by omega, by omega⟩, ⟨⟨by decide, by decide⟩, by decide, by decide⟩, l.getD i default, (3141592653589793239, 1000000000000000000), ⟨fracP_self hp, fracP_self hc2, hr2⟩, by decide, by decide, by decide, ?_⟩
        generalize l.getD i default = p at *
        dsimp only [r_end, r_end1, r_nil, r_op, r_opg, r_runOp, r_op0, r_yld0, r_yld1, r_y, r_rbeg, r_rend, r_rend1, r_rfrm, r_rfrm1, r_range, r_rangeK, r_rangeE, r_draw, r_dnil, r_dop, r_dopg, r_dplq, r_dplh, r_dq, r_dq0, r_dcl1, r_dcl0, r_dct1, r_dct0, r_dgd, r_dgq1, r_dgq0, r_dctG, r_op1, r_eff, r_eff0, r_call, r_call0, r_inl, r_g, r_gq, r_gc, r_effg, r_effg0, r_callg, r_callg0, r_fin, r_pre, r_imp, r_all, r_ex, r_fing, r_preg, r_exg, r_inBlock, r_inLoop, r_frame, r_frame1, r_skip, r_stuck, r_region, r_seq, r_cond, r_cond1, r_block, r_exit, r_exit1, r_exit2, r_ret, r_loop, s_args0, s_args1, s_xt, s_xc, padL, blankL, callee, callArgs, eff, ctOf, getL, setL, S.put, S.upd, unopts, unopt, unoptsO, unoptsB, lazyO, guardOf, gbool, eMov, eNot, eNeg, eConv, eExt, eLenArr, eLen, eLenStr, eEqb, eEqv, allEq, eNil, negIf, eBool2, eCmp, eAri, ari, eBit, eDiv, eSh, eMinMax, foldMin, foldMax, kEq, pure1, cmpB, VO.quiet, resVals, resVal, tupled, popRet, popTo, cond, Option.bind, Option.map, eNew, eBox, asCells, lenH, snocH, eFieldAddr, eField, eLoad, cellsAt, getH, setH, dropL, takeL, mkAgg, lenL, lenS, shift, shiftL, shiftH, viewN, viewL, view, andT, junks, List.append_nil, Nat.beq, eIdxAddr, eIdxArr, idxN_0, idxN_1, idxN_2, idxN_3, eIndex, eStore, storeAt, spliceL, ones, one, eSlice, eSliceArr, bounds, subLo_z, addLo_z, subLo_one, addLo_one, eMake, eAppend, readS, repL, buildCells, chunk, purgeL, purgeLL, purgeH, purge, refs, refsL, List.cons_append, List.nil_append, wrOps, wrAl, wrDops, wrC, junkAt, putAll, putHs, headOf, headK, keepG, List.append_eq, headX, chkP, apartP, apartB, blk, strip, runAl, AL.ho, yld, putPs, lenN, findR, notRound, jumpK, jumpPT, jcode, List.map_cons, List.map_nil, ite_self, reduceIte]
        simp only [true_and, and_true, imp_self, implies_true, decide_eq_true_eq, decide_eq_false_iff_not, Nat.reduceAdd, Nat.reduceLeDiff, Bool.not_not, reduceCtorEq, false_imp_iff, Bool.not_eq_true', Bool.not_eq_false', Bool.false_eq_true, and_self, forall_const, ne_eq, not_false_eq_true, Nat.reduceEqDiff]
        refine ⟨⟨by unfold capOk; omega, fun q hq => ?_⟩, i + 1, by omega, by omega, ?_⟩
        · match q, hq with
          | 0, _ => exact ⟨rfl, trivial, trivial, trivial, trivial⟩
          | 1, _ => exact ⟨rfl, trivial, trivial, trivial, trivial⟩
        · have hw : IntKind.i64.wrap ((i : Int) + 1) = ((i + 1 : Nat) : Int) := by rw [IntWalk.i64_in _ (by omega)]; omega
          have e2 : 2 * (i + 1) = 2 * i + 2 := by omega
          simp only [hw, e2, Bool.or_self, Bool.or_false, leS_mk, leL_cons, leL_nil, le_junk, le_int, le_bool, le_nil, leLL_nil, leLL_cons, leH_cons, leH_nil, leH1_box, leH1_own, leH1_gone, le_vs, le_agg, le_tup, le_ptr, le_own, le_xp, le_fn, le_opt, le_val, le_elem, le_nil_own, le_nil_vs, leH_ghost, leL_chunk, leXL_id, bnd_int, bnd_bool, bnd_val, bnd_nil, bnd_junk, bnd_vs, bnd_xp, bnd_agg, bnd_tup, bnd_ptr, bnd_own, bnd_elem, bnd_fn, bnd_iface, bnd_opt, bndL_nil, bndL_cons, lenH_cons, lenH_nil, imp_self, implies_true, true_and, and_true]
          refine ⟨by omega, by simp, fun q hq => ?_⟩
          rcases Nat.lt_or_ge q (2 * i) with h' | h'
          · rw [if_pos h']; exact leL_self _ ⟨trivial, trivial, trivial, trivial⟩
          · rw [if_neg (by omega)]
            rcases Nat.lt_or_ge q (2 * i + 1) with h'' | h''
            · obtain rfl : q = 2 * i := by omega
              rw [Nat.sub_self, hg2.1]
              exact leL_self (encF true (p.1 * 3141592653589793238, p.2 * 1000000000000000000)) ⟨trivial, trivial, trivial, trivial⟩
            · obtain rfl : q = 2 * i + 1 := by omega
              rw [show 2 * i + 1 - 2 * i = 1 by omega, hg2.2]
              exact leL_self (encF true (p.1 * 3141592653589793239, p.2 * 1000000000000000000)) ⟨trivial, trivial, trivial, trivial⟩
      · obtain rfl : i = l.length := by omega
        have hz : decide ((pisF l).length = 0) = decide (l.length = 0) := by rw [pisF_len, Bool.eq_iff_iff, decide_eq_true_eq, decide_eq_true_eq]; omega
        refine ans_le (show k _ [] from h) ?_ ?_
        · dsimp only [frsR, expo, encF, natV, r_end, r_end1, r_nil, r_op, r_opg, r_runOp, r_op0, r_yld0, r_yld1, r_y, r_rbeg, r_rend, r_rend1, r_rfrm, r_rfrm1, r_range, r_rangeK, r_rangeE, r_draw, r_dnil, r_dop, r_dopg, r_dplq, r_dplh, r_dq, r_dq0, r_dcl1, r_dcl0, r_dct1, r_dct0, r_dgd, r_dgq1, r_dgq0, r_dctG, r_op1, r_eff, r_eff0, r_call, r_call0, r_inl, r_g, r_gq, r_gc, r_effg, r_effg0, r_callg, r_callg0, r_fin, r_pre, r_imp, r_all, r_ex, r_fing, r_preg, r_exg, r_inBlock, r_inLoop, r_frame, r_frame1, r_skip, r_stuck, r_region, r_seq, r_cond, r_cond1, r_block, r_exit, r_exit1, r_exit2, r_ret, r_loop, s_args0, s_args1, s_xt, s_xc, padL, blankL, callee, callArgs, eff, ctOf, getL, setL, S.put, S.upd, unopts, unopt, unoptsO, unoptsB, lazyO, guardOf, gbool, eMov, eNot, eNeg, eConv, eExt, eLenArr, eLen, eLenStr, eEqb, eEqv, allEq, eNil, negIf, eBool2, eCmp, eAri, ari, eBit, eDiv, eSh, eMinMax, foldMin, foldMax, kEq, pure1, cmpB, VO.quiet, resVals, resVal, tupled, popRet, popTo, cond, Option.bind, Option.map, eNew, eBox, asCells, lenH, snocH, eFieldAddr, eField, eLoad, cellsAt, getH, setH, dropL, takeL, mkAgg, lenL, lenS, shift, shiftL, shiftH, viewN, viewL, view, andT, junks, List.append_nil, Nat.beq, eIdxAddr, eIdxArr, idxN_0, idxN_1, idxN_2, idxN_3, eIndex, eStore, storeAt, spliceL, ones, one, eSlice, eSliceArr, bounds, subLo_z, addLo_z, subLo_one, addLo_one, eMake, eAppend, readS, repL, buildCells, chunk, purgeL, purgeLL, purgeH, purge, refs, refsL, List.cons_append, List.nil_append, wrOps, wrAl, wrDops, wrC, junkAt, putAll, putHs, headOf, headK, keepG, List.append_eq, headX, chkP, apartP, apartB, blk, strip, runAl, AL.ho, yld, putPs, lenN, findR, notRound, jumpK, jumpPT, jcode, List.map_cons, List.map_nil, ite_self, reduceIte]
          rw [hz, pisF_len]
          simp only [leS_mk, leL_cons, leL_nil, le_junk, le_int, le_bool, le_nil, leLL_nil, leLL_cons, leH_cons, leH_nil, leH1_box, leH1_own, leH1_gone, le_vs, le_agg, le_tup, le_ptr, le_own, le_xp, le_fn, le_opt, le_val, le_elem, le_nil_own, le_nil_vs, leH_ghost, leL_chunk, leXL_id, bnd_int, bnd_bool, bnd_val, bnd_nil, bnd_junk, bnd_vs, bnd_xp, bnd_agg, bnd_tup, bnd_ptr, bnd_own, bnd_elem, bnd_fn, bnd_iface, bnd_opt, bndL_nil, bndL_cons, lenH_cons, lenH_nil, imp_self, implies_true, true_and, and_true]
        · intro _; simp [freshS, freshL, encF, natV, frsR]
  · exact h.1.elim

def S5 : Env := { ct := fun n => match n with | 33 => some iv1C | 48 => some quoiC | 59 => some pisC | 49 => some spanqC | _ => none, fn := fun _ => none, meth := fun _ _ => none }
theorem S5_ct33 : S5.ct 33 = some iv1C := rfl
theorem S5_ct48 : S5.ct 48 = some quoiC := rfl
theorem S5_ct59 : S5.ct 59 = some pisC := rfl
theorem S5_ct49 : S5.ct 49 = some spanqC := rfl
theorem S5_ok : EnvOk Try.prog S5 := by
  refine ⟨fun f c h => ?_, fun f vf h => ?_, fun _ _ => rfl, by kernel_rfl⟩
  · simp only [S5] at h
    split at h
    · cases h; exact ⟨rcheck_ok, Try.f33, Try.func33, by kernel_rfl, by kernel_rfl⟩
    · cases h; exact ⟨quoi_ok, Try.f48, Try.func48, by kernel_rfl, by kernel_rfl⟩
    · cases h; exact ⟨pis_ok, Try.f59, Try.func59, by kernel_rfl, by kernel_rfl⟩
    · cases h; exact ⟨spanq_ok, Try.f49, Try.func49, by kernel_rfl, by kernel_rfl⟩
    · cases h
  · cases h


theorem pis2_ok {x y : Int} {d : Nat} (hd : 0 < d ∧ d ≤ 1000000) (hx : x.natAbs < 4294967296 ^ 5) (hy : y.natAbs < 4294967296 ^ 5) : ∀ p ∈ pisF [(x, d), (y, d)], frOk p := by
  have a1 : (x * 3141592653589793238).natAbs < 4294967296 ^ 8 := by omega
  have a2 : (x * 3141592653589793239).natAbs < 4294967296 ^ 8 := by omega
  have a3 : (y * 3141592653589793238).natAbs < 4294967296 ^ 8 := by omega
  have a4 : (y * 3141592653589793239).natAbs < 4294967296 ^ 8 := by omega
  have b1 : 0 < d * 1000000000000000000 := by omega
  have b2 : d * 1000000000000000000 < 4294967296 ^ 8 := by omega
  have e : pisF [(x, d), (y, d)] = [(x * 3141592653589793238, d * 1000000000000000000), (x * 3141592653589793239, d * 1000000000000000000), (y * 3141592653589793238, d * 1000000000000000000), (y * 3141592653589793239, d * 1000000000000000000)] := rfl
  rw [e]
  intro p hp
  simp only [List.mem_cons, List.not_mem_nil, or_false] at hp
  rcases hp with rfl | rfl | rfl | rfl
  · exact frOk_8 b1 a1 b2
  · exact frOk_8 b1 a2 b2
  · exact frOk_8 b1 a3 b2
  · exact frOk_8 b1 a4 b2

theorem rpi_ok : piC.ok Try.prog 18 := by
  refine contract Try.func18 v18_is S5_ok 400 piC fun args k h => ⟨args, ?_⟩
  simp only [piC, ivoC] at h
  split at h
  · rename_i x y
    refine ⟨by simp [leL, le], ?_⟩
    dsimp only [v18, S5_ct33, S5_ct48, S5_ct59, S5_ct49, iv1C, quoiC, pisC, frsR, spanqC, enc2, encF, natV, r_end, r_end1, r_nil, r_op, r_opg, r_runOp, r_op0, r_yld0, r_yld1, r_y, r_rbeg, r_rend, r_rend1, r_rfrm, r_rfrm1, r_range, r_rangeK, r_rangeE, r_draw, r_dnil, r_dop, r_dopg, r_dplq, r_dplh, r_dq, r_dq0, r_dcl1, r_dcl0, r_dct1, r_dct0, r_dgd, r_dgq1, r_dgq0, r_dctG, r_op1, r_eff, r_eff0, r_call, r_call0, r_inl, r_g, r_gq, r_gc, r_effg, r_effg0, r_callg, r_callg0, r_fin, r_pre, r_imp, r_all, r_ex, r_fing, r_preg, r_exg, r_inBlock, r_inLoop, r_frame, r_frame1, r_skip, r_stuck, r_region, r_seq, r_cond, r_cond1, r_block, r_exit, r_exit1, r_exit2, r_ret, r_loop, s_args0, s_args1, s_xt, s_xc, padL, blankL, callee, callArgs, eff, ctOf, getL, setL, S.put, S.upd, unopts, unopt, unoptsO, unoptsB, lazyO, guardOf, gbool, eMov, eNot, eNeg, eConv, eExt, eLenArr, eLen, eLenStr, eEqb, eEqv, allEq, eNil, negIf, eBool2, eCmp, eAri, ari, eBit, eDiv, eSh, eMinMax, foldMin, foldMax, kEq, pure1, cmpB, VO.quiet, resVals, resVal, tupled, popRet, popTo, cond, Option.bind, Option.map, eNew, eBox, asCells, lenH, snocH, eFieldAddr, eField, eLoad, cellsAt, getH, setH, dropL, takeL, mkAgg, lenL, lenS, shift, shiftL, shiftH, viewN, viewL, view, andT, junks, List.append_nil, Nat.beq, eIdxAddr, eIdxArr, idxN_0, idxN_1, idxN_2, idxN_3, eIndex, eStore, storeAt, spliceL, ones, one, eSlice, eSliceArr, bounds, subLo_z, addLo_z, subLo_one, addLo_one, eMake, eAppend, readS, repL, buildCells, chunk, purgeL, purgeLL, purgeH, purge, refs, refsL, List.cons_append, List.nil_append, wrOps, wrAl, wrDops, wrC, junkAt, putAll, putHs, headOf, headK, keepG, List.append_eq, headX, chkP, apartP, apartB, blk, strip, runAl, AL.ho, yld, putPs, lenN, findR, notRound, jumpK, jumpPT, jcode, List.map_cons, List.map_nil, ite_self, reduceIte]
    simp only [true_and, and_true, imp_self, implies_true, decide_eq_true_eq, decide_eq_false_iff_not, Nat.reduceAdd, Nat.reduceLeDiff, Bool.not_not, reduceCtorEq, false_imp_iff, Bool.not_eq_true', Bool.not_eq_false', Bool.false_eq_true, and_self, forall_const, ne_eq, not_false_eq_true, Nat.reduceEqDiff]
    have h : k (.tup [.agg (enc2 (piF (x, y)).1), .int .i64 (piF (x, y)).2]) [] := h
    refine ⟨fun he => ?_, fun he => ?_⟩
    · rw [piF, if_pos he] at h
      exact ans_iv h
    · rw [piF, if_neg (by omega)] at h
      obtain ⟨hx, hy, hxy⟩ := ivE1 he
      dsimp only at hx hy
      have hP := pis2_ok (x := x) (y := y) (d := 1) ⟨by decide, by decide⟩ (by omega) (by omega)
      refine ⟨hx, hy, by decide, [(x, 1), (y, 1)], ⟨⟨rfl, rfl, fun k hk => match k, hk with | 0, _ => leXL_self (encF false (x, 1)) | 1, _ => leXL_self (encF false (y, 1))⟩, by simp, list2 (frOk_1 hx) (frOk_1 hy), hP⟩,
        (x * 3141592653589793238, 1 * 1000000000000000000), [(x * 3141592653589793239, 1 * 1000000000000000000), (y * 3141592653589793238, 1 * 1000000000000000000), (y * 3141592653589793239, 1 * 1000000000000000000)],
        ⟨⟨rfl, rfl, fun k hk => leXL_self (encF false ((pisF [(x, 1), (y, 1)]).getD k default))⟩, by simp, hP⟩, by decide, by decide, ?_⟩
      have e := spanQ_one (d := 1 * 1000000000000000000) (by decide) (x * 3141592653589793238) [x * 3141592653589793239, y * 3141592653589793238, y * 3141592653589793239]
      have e2 : ((1 * 1000000000000000000 : Nat) : Int) = 1000000000000000000 := rfl
      rw [e2] at e
      have e3 : spanQ (x * 3141592653589793238, 1 * 1000000000000000000) [(x * 3141592653589793239, 1 * 1000000000000000000), (y * 3141592653589793238, 1 * 1000000000000000000), (y * 3141592653589793239, 1 * 1000000000000000000)] = spanI 1000000000000000000 (x * 3141592653589793238) [x * 3141592653589793239, y * 3141592653589793238, y * 3141592653589793239] := e
      rw [e3]
      exact ans_iv h
  · exact h.1.elim

end Go.Proofs.Ytdognchniaojoaa
