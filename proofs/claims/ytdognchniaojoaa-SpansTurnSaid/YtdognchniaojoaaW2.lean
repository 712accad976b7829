/- Spans: the law of sets, walked. -/
import Derived.Test.YtdognchniaojoaaW1
set_option linter.all false
namespace Go.Proofs.Ytdognchniaojoaa
open Go Go.Vx
set_option maxRecDepth 100000
set_option maxHeartbeats 4000000

def A1 : Env := { ct := fun n => match n with | 16 => some trueC | 36 => some hullC | 37 => some hullC | 38 => some meetC | 39 => some meetC | 40 => some ordC | 41 => some ordC | _ => none, fn := fun _ => none, meth := fun _ _ => none }
theorem A1_ct16 : A1.ct 16 = some trueC := rfl
theorem A1_ct36 : A1.ct 36 = some hullC := rfl
theorem A1_ct37 : A1.ct 37 = some hullC := rfl
theorem A1_ct38 : A1.ct 38 = some meetC := rfl
theorem A1_ct39 : A1.ct 39 = some meetC := rfl
theorem A1_ct40 : A1.ct 40 = some ordC := rfl
theorem A1_ct41 : A1.ct 41 = some ordC := rfl
theorem A1_ok : EnvOk Try.prog A1 := by
  refine ⟨fun f c h => ?_, fun f vf h => ?_, fun _ _ => rfl, by kernel_rfl⟩
  · simp only [A1] at h
    split at h
    · cases h; exact ⟨awake_ok, Try.f16, Try.func16, by kernel_rfl, by kernel_rfl⟩
    · cases h; exact ⟨hull_ok, Try.f36, Try.func36, by kernel_rfl, by kernel_rfl⟩
    · cases h; exact ⟨rhull_ok, Try.f37, Try.func37, by kernel_rfl, by kernel_rfl⟩
    · cases h; exact ⟨meet_ok, Try.f38, Try.func38, by kernel_rfl, by kernel_rfl⟩
    · cases h; exact ⟨rmeet_ok, Try.f39, Try.func39, by kernel_rfl, by kernel_rfl⟩
    · cases h; exact ⟨ord_ok, Try.f40, Try.func40, by kernel_rfl, by kernel_rfl⟩
    · cases h; exact ⟨rord_ok, Try.f41, Try.func41, by kernel_rfl, by kernel_rfl⟩
    · cases h
  · cases h


def shI : List Sh := [.int .i64, .int .i64]
theorem ivl_of {c : List SV} (h : okSL shI c) : ∃ a : Iv, c = enc2 a := by
  obtain ⟨_, _, rfl, ⟨n1, rfl, _⟩, e1⟩ := okSL_cons_inv h
  obtain ⟨_, _, rfl, ⟨n2, rfl, _⟩, e2⟩ := okSL_cons_inv e1
  cases okSL_nil_inv e2
  exact ⟨(n1, n2), rfl⟩

def law2 : List PSh := [⟨true, shI⟩, ⟨true, shI⟩]

theorem ordF_turn (a b : Iv) (h : (ordF a b).2 = 0) : (ordF b a).2 = 0 ∧ (ordF b a).1 = -(ordF a b).1 ∧ ((ordF a b).1 ≠ 0 ↔ (meetF a b).2 = 4) := by
  have he : ivE [a, b] = 0 := by
    unfold ordF at h
    split at h
    · exact h
    · rename_i hn; omega
  have he' : ivE [b, a] = 0 := by
    unfold ivE at he ⊢
    simp only [List.all_cons, List.all_nil, Bool.and_true, Bool.and_comm (numOk b.1 && numOk b.2), Bool.and_comm (decide (b.1 ≤ b.2))] at he ⊢
    exact he
  obtain ⟨⟨_, _, h1⟩, _, _, h2⟩ := ivE2 he
  have o1 : ordF a b = if a.2 < b.1 then (-1, 0) else if b.2 < a.1 then (1, 0) else (0, 0) := by rw [ordF, if_neg (by omega)]
  have o2 : ordF b a = if b.2 < a.1 then (-1, 0) else if a.2 < b.1 then (1, 0) else (0, 0) := by rw [ordF, if_neg (by omega)]
  have o3 : meetF a b = if min a.2 b.2 < max a.1 b.1 then errI 4 else ((max a.1 b.1, min a.2 b.2), 0) := by rw [meetF, if_neg (by omega)]
  rw [o1, o2, o3]
  have c : (min a.2 b.2 < max a.1 b.1) ↔ (a.2 < b.1 ∨ b.2 < a.1) := by omega
  by_cases c1 : a.2 < b.1
  · rw [if_pos c1, if_neg (by omega), if_pos c1, if_pos (c.2 (Or.inl c1))]; simp [errI]
  · by_cases c2 : b.2 < a.1
    · rw [if_pos (c.2 (Or.inr c2))]; simp [errI, c1, c2]
    · rw [if_neg (show ¬ (min a.2 b.2 < max a.1 b.1) by rw [c]; omega)]; simp [c1, c2]

theorem ordF_small (a b : Iv) : -1 ≤ (ordF a b).1 ∧ (ordF a b).1 ≤ 1 := by
  unfold ordF; split
  · simp
  · split
    · simp
    · split <;> simp

theorem lawSets : (lawC law2).ok Try.prog 9 := by
  refine contract Try.func9 v9_is A1_ok 400 (lawC law2) fun args k h => ?_
  obtain ⟨ha, hk⟩ := h
  obtain ⟨_, _, rfl, h1, e1⟩ := okPL_cons_inv ha
  obtain ⟨cs, rfl, hcs⟩ := okP_agg_inv h1
  obtain ⟨_, _, rfl, h2, e2⟩ := okPL_cons_inv e1
  obtain ⟨ds, rfl, hds⟩ := okP_agg_inv h2
  cases okPL_nil_inv e2
  obtain ⟨⟨x, y⟩, rfl⟩ := ivl_of hcs
  obtain ⟨⟨z, w⟩, rfl⟩ := ivl_of hds
  refine ⟨[.agg (enc2 (x, y)), .agg (enc2 (z, w))], ⟨leXL_le _ _ (leXL_self _) (by simp only [enc2, bndL_cons, bndL_nil, bnd_vs, bnd_int, and_self]), leXL_le _ _ (leXL_self _) (by simp only [enc2, bndL_cons, bndL_nil, bnd_vs, bnd_int, and_self]), trivial⟩, ?_⟩
  dsimp only [v9, A1_ct16, A1_ct36, A1_ct38, A1_ct40, A1_ct37, A1_ct39, A1_ct41, trueC, hullC, meetC, ordC, iv2C, enc2, r_end, r_end1, r_nil, r_op, r_opg, r_runOp, r_op0, r_yld0, r_yld1, r_y, r_rbeg, r_rend, r_rend1, r_rfrm, r_rfrm1, r_range, r_rangeK, r_rangeE, r_draw, r_dnil, r_dop, r_dopg, r_dplq, r_dplh, r_dq, r_dq0, r_dcl1, r_dcl0, r_dct1, r_dct0, r_dgd, r_dgq1, r_dgq0, r_dctG, r_op1, r_eff, r_eff0, r_call, r_call0, r_inl, r_g, r_gq, r_gc, r_effg, r_effg0, r_callg, r_callg0, r_fin, r_pre, r_imp, r_all, r_ex, r_fing, r_preg, r_exg, r_inBlock, r_inLoop, r_frame, r_frame1, r_skip, r_stuck, r_region, r_seq, r_cond, r_cond1, r_block, r_exit, r_exit1, r_exit2, r_ret, r_loop, s_args0, s_args1, s_xt, s_xc, padL, blankL, callee, callArgs, eff, ctOf, getL, setL, S.put, S.upd, unopts, unopt, unoptsO, unoptsB, lazyO, guardOf, gbool, eMov, eNot, eNeg, eConv, eExt, eLenArr, eLen, eLenStr, eEqb, eEqv, allEq, eNil, negIf, eBool2, eCmp, eAri, ari, eBit, eDiv, eSh, eMinMax, foldMin, foldMax, kEq, pure1, cmpB, VO.quiet, resVals, resVal, tupled, popRet, popTo, cond, Option.bind, Option.map, eNew, eBox, asCells, lenH, snocH, eFieldAddr, eField, eLoad, cellsAt, getH, setH, dropL, takeL, mkAgg, lenL, lenS, shift, shiftL, shiftH, viewN, viewL, view, andT, junks, List.append_nil, Nat.beq, eIdxAddr, eIdxArr, idxN_0, idxN_1, idxN_2, idxN_3, eIndex, eStore, storeAt, spliceL, ones, one, eSlice, eSliceArr, bounds, subLo_z, addLo_z, subLo_one, addLo_one, eMake, eAppend, readS, repL, buildCells, chunk, purgeL, purgeLL, purgeH, purge, refs, refsL, List.cons_append, List.nil_append, wrOps, wrAl, wrDops, wrC, junkAt, putAll, putHs, headOf, headK, keepG, List.append_eq, headX, chkP, apartP, apartB, blk, strip, runAl, AL.ho, yld, putPs, lenN, findR, notRound, jumpK, jumpPT, jcode, List.map_cons, List.map_nil, ite_self, reduceIte]
  simp only [true_and, and_true, imp_self, implies_true, decide_eq_true_eq, decide_eq_false_iff_not, Nat.reduceAdd, Nat.reduceLeDiff, Bool.not_not, reduceCtorEq, false_imp_iff, Bool.not_eq_true', Bool.not_eq_false', Bool.false_eq_true, and_self, forall_const, ne_eq, not_false_eq_true, Nat.reduceEqDiff]
  have hk' : k (.bool true) [] := hk
  have hT := ordF_turn (x, y) (z, w)
  have hS := ordF_small (x, y) (z, w)
  generalize ordF (x, y) (z, w) = o at *
  generalize ordF (z, w) (x, y) = p at *
  generalize meetF (x, y) (z, w) = m at *
  have hw : o.2 = 0 → IntKind.i64.wrap (0 - o.1) = -o.1 := fun _ => by
    rw [IntWalk.i64_in _ (by omega)]; omega
  refine ⟨by decide, by decide, by decide, by decide, by decide, by decide, by decide, by decide, by decide, by decide, by decide, by decide, by decide, by decide, fun hb => ?_, fun _ => ⟨fun h1 h2 => by simp [h1, h2], fun h1 h2 => by rw [h1, decide_eq_true rfl, Bool.true_and, h2], ans_bool ?_⟩⟩
  · simp at hb
  · have e : ((!decide (o.2 = 0) || decide (p.2 = 0) && decide (p.1 = IntKind.i64.wrap (0 - o.1)) && (!decide (o.1 = 0)) == decide (m.2 = 4)) && true) = true := by
      by_cases h0 : o.2 = 0
      · obtain ⟨t1, t2, t3⟩ := hT h0
        rw [hw h0]
        by_cases h1 : o.1 = 0
        · simp_all
        · simp_all
      · simp [h0]
    rw [e]; exact hk'
end Go.Proofs.Ytdognchniaojoaa
