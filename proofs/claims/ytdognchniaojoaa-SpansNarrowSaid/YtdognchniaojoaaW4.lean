/- Spans: what is computed of members is inside: walked. -/
import Derived.Test.YtdognchniaojoaaW3
set_option linter.all false
namespace Go.Proofs.Ytdognchniaojoaa
open Go Go.Vx
set_option maxRecDepth 100000
set_option maxHeartbeats 4000000

def v6 : VF := { ntmps := 96, res := [.tmp 2], body :=
 (.seq (.region [⟨(some 1), none, .box, [.tm 0]⟩,
  ⟨(some 2), none, .mov, [.cn (.bool false)]⟩])
 (.seq (.region [⟨(some 12), none, (.fieldAddr 0), [.tm 1]⟩,
  ⟨(some 13), none, (.load true 2), [.tm 12]⟩,
  ⟨(some 14), none, (.fieldAddr 4), [.tm 1]⟩,
  ⟨(some 15), none, (.load false 1), [.tm 14]⟩,
  ⟨(some 16), none, (.call 21), [.tm 13, .tm 15]⟩,
  ⟨(some 11), none, .mov, [.tm 16]⟩,
  ⟨(some 17), none, (.ext 0), [.tm 11]⟩,
  ⟨(some 18), none, (.ext 1), [.tm 11]⟩,
  ⟨(some 3), none, (.alloc [(.int .i64 0), (.int .i64 0)]), []⟩,
  ⟨none, none, (.store 2), [.tm 3, .tm 17]⟩,
  ⟨(some 4), none, .mov, [.tm 18]⟩])
 (.seq (.region [⟨(some 20), none, (.fieldAddr 2), [.tm 1]⟩,
  ⟨(some 21), none, (.load true 2), [.tm 20]⟩,
  ⟨(some 22), none, (.fieldAddr 5), [.tm 1]⟩,
  ⟨(some 23), none, (.load false 1), [.tm 22]⟩,
  ⟨(some 24), none, (.call 21), [.tm 21, .tm 23]⟩,
  ⟨(some 19), none, .mov, [.tm 24]⟩,
  ⟨(some 25), none, (.ext 0), [.tm 19]⟩,
  ⟨(some 26), none, (.ext 1), [.tm 19]⟩,
  ⟨(some 5), none, (.alloc [(.int .i64 0), (.int .i64 0)]), []⟩,
  ⟨none, none, (.store 2), [.tm 5, .tm 25]⟩,
  ⟨(some 6), none, .mov, [.tm 26]⟩])
 (.seq (.seq (.region [⟨(some 7), none, .mov, [.cn (.int .i64 0)]⟩])
 (.block 0 (.loop (.seq (.seq (.region [⟨(some 27), none, .mov, [.tm 7]⟩,
  ⟨(some 28), none, (.cmp .lss), [.tm 27, .cn (.int .i64 4)]⟩])
 (.cond (.tm 28) .skip
  (.exit 0)))
 (.seq (.block 1 (.seq (.region [⟨(some 31), none, (.build [(.int .i64 0), (.int .i64 0)] []), []⟩,
  ⟨(some 8), none, (.alloc [(.int .i64 0), (.int .i64 0)]), []⟩,
  ⟨none, none, (.store 2), [.tm 8, .tm 31]⟩,
  ⟨(some 9), none, .mov, [.cn (.int .i64 0)]⟩])
 (.seq (.seq (.region [⟨(some 32), none, .mov, [.tm 7]⟩])
 (.block 2 (.seq (.region [⟨(some 44), none, (.cmp .eql), [.tm 32, .cn (.int .i64 0)]⟩,
  ⟨(some 43), none, .mov, [.tm 44]⟩])
 (.cond (.tm 43) (.region [⟨(some 46), none, (.load true 2), [.tm 3]⟩,
  ⟨(some 47), none, (.load true 2), [.tm 5]⟩,
  ⟨(some 48), none, (.call 24), [.tm 46, .tm 47]⟩,
  ⟨(some 45), none, .mov, [.tm 48]⟩,
  ⟨(some 49), none, (.ext 0), [.tm 45]⟩,
  ⟨(some 50), none, (.ext 1), [.tm 45]⟩,
  ⟨none, none, (.store 2), [.tm 8, .tm 49]⟩,
  ⟨(some 9), none, .mov, [.tm 50]⟩])
  (.seq (.region [⟨(some 52), none, (.cmp .eql), [.tm 32, .cn (.int .i64 1)]⟩,
  ⟨(some 51), none, .mov, [.tm 52]⟩])
 (.cond (.tm 51) (.region [⟨(some 54), none, (.load true 2), [.tm 3]⟩,
  ⟨(some 55), none, (.load true 2), [.tm 5]⟩,
  ⟨(some 56), none, (.call 25), [.tm 54, .tm 55]⟩,
  ⟨(some 53), none, .mov, [.tm 56]⟩,
  ⟨(some 57), none, (.ext 0), [.tm 53]⟩,
  ⟨(some 58), none, (.ext 1), [.tm 53]⟩,
  ⟨none, none, (.store 2), [.tm 8, .tm 57]⟩,
  ⟨(some 9), none, .mov, [.tm 58]⟩])
  (.seq (.region [⟨(some 60), none, (.cmp .eql), [.tm 32, .cn (.int .i64 2)]⟩,
  ⟨(some 59), none, .mov, [.tm 60]⟩])
 (.cond (.tm 59) (.region [⟨(some 62), none, (.load true 2), [.tm 3]⟩,
  ⟨(some 63), none, (.load true 2), [.tm 5]⟩,
  ⟨(some 64), none, (.call 23), [.tm 62, .tm 63]⟩,
  ⟨(some 61), none, .mov, [.tm 64]⟩,
  ⟨(some 65), none, (.ext 0), [.tm 61]⟩,
  ⟨(some 66), none, (.ext 1), [.tm 61]⟩,
  ⟨none, none, (.store 2), [.tm 8, .tm 65]⟩,
  ⟨(some 9), none, .mov, [.tm 66]⟩])
  (.seq (.region [⟨(some 34), none, (.load true 2), [.tm 3]⟩,
  ⟨(some 35), none, (.load true 2), [.tm 5]⟩,
  ⟨(some 36), none, (.call 26), [.tm 34, .tm 35]⟩,
  ⟨(some 33), none, .mov, [.tm 36]⟩,
  ⟨(some 37), none, (.ext 0), [.tm 33]⟩,
  ⟨(some 38), none, (.ext 1), [.tm 33]⟩,
  ⟨none, none, (.store 2), [.tm 8, .tm 37]⟩,
  ⟨(some 9), none, .mov, [.tm 38]⟩])
 (.seq (.region [⟨(some 39), none, (.load true 2), [.tm 5]⟩,
  ⟨(some 40), none, (.call 27), [.cn (.int .i64 0), .tm 39]⟩])
 (.cond (.tm 40) (.seq (.seq (.region [⟨(some 41), none, .mov, [.tm 9]⟩,
  ⟨(some 42), none, (.cmp .neq), [.tm 41, .cn (.int .i64 9)]⟩])
 (.cond (.tm 42) (.seq (.region [⟨(some 2), none, .mov, [.cn (.bool false)]⟩])
 .ret)
  .skip))
 (.exit 1))
  .skip)))))))))))
 (.seq (.region [⟨(some 67), none, .mov, [.tm 4]⟩,
  ⟨(some 68), none, .mov, [.tm 6]⟩,
  ⟨(some 69), none, .mov, [.tm 7]⟩,
  ⟨(some 70), none, (.call 28), [.tm 67, .tm 68, .tm 69]⟩,
  ⟨(some 10), none, (.alloc [(.int .i64 0), (.int .i64 0)]), []⟩,
  ⟨none, none, (.store 2), [.tm 10, .tm 70]⟩])
 (.seq (.draw [] [⟨⟨(some 71), none, .mov, [.tm 9]⟩, []⟩,
  ⟨⟨(some 72), none, (.cmp .neq), [.tm 71, .cn (.int .i64 0)]⟩, []⟩,
  ⟨⟨(some 73), none, .mov, [.tm 72]⟩, []⟩,
  ⟨⟨(some 74), (some (73, false)), (.fieldAddr 0), [.tm 10]⟩, []⟩,
  ⟨⟨(some 75), (some (73, false)), (.load false 1), [.tm 74]⟩, []⟩,
  ⟨⟨(some 76), (some (73, false)), (.load true 2), [.tm 8]⟩, []⟩,
  ⟨⟨(some 77), (some (73, false)), (.call 27), [.tm 75, .tm 76]⟩, []⟩,
  ⟨⟨(some 78), (some (73, false)), .not, [.tm 77]⟩, []⟩,
  ⟨⟨(some 79), none, .or, [.tm 73, .tm 78]⟩, []⟩,
  ⟨⟨(some 80), none, .mov, [.tm 79]⟩, []⟩,
  ⟨⟨(some 81), (some (80, false)), (.fieldAddr 1), [.tm 10]⟩, []⟩,
  ⟨⟨(some 82), (some (80, false)), (.load false 1), [.tm 81]⟩, []⟩,
  ⟨⟨(some 83), (some (80, false)), (.load true 2), [.tm 8]⟩, []⟩,
  ⟨⟨(some 84), (some (80, false)), (.call 27), [.tm 82, .tm 83]⟩, []⟩,
  ⟨⟨(some 85), (some (80, false)), .not, [.tm 84]⟩, []⟩,
  ⟨⟨(some 86), none, .or, [.tm 80, .tm 85]⟩, []⟩,
  ⟨⟨(some 87), none, .mov, [.tm 86]⟩, []⟩,
  ⟨⟨(some 88), (some (87, false)), (.load true 2), [.tm 8]⟩, []⟩,
  ⟨⟨(some 89), (some (87, false)), (.load true 2), [.tm 3]⟩, []⟩,
  ⟨⟨(some 90), (some (87, false)), (.load true 2), [.tm 5]⟩, []⟩,
  ⟨⟨(some 91), (some (87, false)), .mov, [.tm 7]⟩, []⟩,
  ⟨⟨(some 92), (some (87, false)), (.call 29), [.tm 89, .tm 90, .tm 91]⟩, []⟩,
  ⟨⟨(some 93), (some (87, false)), (.eqv true [true, true]), [.tm 88, .tm 92]⟩, []⟩,
  ⟨⟨(some 94), none, .or, [.tm 87, .tm 93]⟩, []⟩])
 (.cond (.tm 94) (.seq (.region [⟨(some 2), none, .mov, [.cn (.bool false)]⟩])
 .ret)
  .skip))))))
 (.region [⟨(some 29), none, .mov, [.tm 7]⟩,
  ⟨(some 30), none, (.ari .add), [.tm 29, .cn (.int .i64 1)]⟩,
  ⟨(some 7), none, .mov, [.tm 30]⟩]))))))
 (.seq (.region [⟨(some 95), none, (.call 16), []⟩,
  ⟨(some 2), none, .mov, [.tm 95]⟩])
 .ret))))) }
theorem v6_is : vfunc Try.prog Try.f6 = some v6 := by kernel_rfl


def shP : List Sh := [.int .i32, .int .i32, .int .i32, .int .i32, .int .u32, .int .u32]
def r32 (x : Int) : Prop := -2147483648 ≤ x ∧ x ≤ 2147483647
def u32 (x : Int) : Prop := 0 ≤ x ∧ x < 4294967296
theorem wf32 {x : Int} (h : (Lit.int .i32 x).wf = true) : r32 x := by
  simp only [Lit.wf, Bool.and_eq_true, decide_eq_true_eq, show IntKind.min .i32 = -2147483648 by decide, show IntKind.max .i32 = 2147483647 by decide] at h
  exact h
theorem wfu {x : Int} (h : (Lit.int .u32 x).wf = true) : u32 x := by
  simp only [Lit.wf, Bool.and_eq_true, decide_eq_true_eq, show IntKind.min .u32 = 0 by decide, show IntKind.max .u32 = 4294967295 by decide] at h
  unfold u32; omega
theorem ok_cond {o : Iv × Int} {n r : Iv} (h : o.2 = 0 ∧ o.1 = r ∧ r.1 ≤ n.1 ∧ n.1 ≤ r.2 ∧ r.1 ≤ n.2 ∧ n.2 ≤ r.2) : (!decide (o.2 = 0) || !(decide (o.1.1 ≤ n.1) && decide (n.1 ≤ o.1.2)) || !(decide (o.1.1 ≤ n.2) && decide (n.2 ≤ o.1.2)) || !(decide (o.1.1 = r.1) && (decide (o.1.2 = r.2) && true))) = false := by
  obtain ⟨h0, rfl, h1, h2, h3, h4⟩ := h
  simp [h0, h1, h2, h3, h4]
theorem pair_of {c : List SV} (h : okSL shP c) : ∃ p q r s u v : Int, c = [.int .i32 p, .int .i32 q, .int .i32 r, .int .i32 s, .int .u32 u, .int .u32 v] ∧ (r32 p ∧ r32 q) ∧ (r32 r ∧ r32 s) ∧ u32 u ∧ u32 v := by
  obtain ⟨_, _, rfl, ⟨n1, rfl, w1⟩, e1⟩ := okSL_cons_inv h
  obtain ⟨_, _, rfl, ⟨n2, rfl, w2⟩, e2⟩ := okSL_cons_inv e1
  obtain ⟨_, _, rfl, ⟨n3, rfl, w3⟩, e3⟩ := okSL_cons_inv e2
  obtain ⟨_, _, rfl, ⟨n4, rfl, w4⟩, e4⟩ := okSL_cons_inv e3
  obtain ⟨_, _, rfl, ⟨n5, rfl, w5⟩, e5⟩ := okSL_cons_inv e4
  obtain ⟨_, _, rfl, ⟨n6, rfl, w6⟩, e6⟩ := okSL_cons_inv e5
  cases okSL_nil_inv e6
  exact ⟨n1, n2, n3, n4, n5, n6, rfl, ⟨wf32 w1, wf32 w2⟩, ⟨wf32 w3, wf32 w4⟩, wfu w5, wfu w6⟩
theorem of_law {p q n : Int} (hp : r32 p) (hq : r32 q) (hn : u32 n) : iv31 (min p q, max p q) ∧ min p q ≤ ofF p q n ∧ ofF p q n ≤ max p q := by
  unfold r32 u32 at *
  have b : 0 ≤ n % (max p q - min p q + 1) ∧ n % (max p q - min p q + 1) < max p q - min p q + 1 := ⟨Int.emod_nonneg _ (by omega), Int.emod_lt_of_pos _ (by omega)⟩
  unfold ofF iv31
  generalize n % (max p q - min p q + 1) = d at *
  dsimp only
  omega

def A4 : Env := { ct := fun n => match n with | 21 => some ofiC | 27 => some inC | 28 => some valC | 29 => some corC | 16 => some trueC | 24 => some addC | 25 => some subC | 23 => some mulC | 26 => some quoC | _ => none, fn := fun _ => none, meth := fun _ _ => none }
theorem A4_ct21 : A4.ct 21 = some ofiC := rfl
theorem A4_ct27 : A4.ct 27 = some inC := rfl
theorem A4_ct28 : A4.ct 28 = some valC := rfl
theorem A4_ct29 : A4.ct 29 = some corC := rfl
theorem A4_ct16 : A4.ct 16 = some trueC := rfl
theorem A4_ct24 : A4.ct 24 = some addC := rfl
theorem A4_ct25 : A4.ct 25 = some subC := rfl
theorem A4_ct23 : A4.ct 23 = some mulC := rfl
theorem A4_ct26 : A4.ct 26 = some quoC := rfl
theorem A4_ok : EnvOk Try.prog A4 := by
  refine ⟨fun f c h => ?_, fun f vf h => ?_, fun _ _ => rfl, by kernel_rfl⟩
  · simp only [A4] at h
    split at h
    · cases h; exact ⟨ofi_ok, Try.f21, Try.func21, by kernel_rfl, by kernel_rfl⟩
    · cases h; exact ⟨in_ok, Try.f27, Try.func27, by kernel_rfl, by kernel_rfl⟩
    · cases h; exact ⟨val_ok, Try.f28, Try.func28, by kernel_rfl, by kernel_rfl⟩
    · cases h; exact ⟨cor_ok, Try.f29, Try.func29, by kernel_rfl, by kernel_rfl⟩
    · cases h; exact ⟨awake_ok, Try.f16, Try.func16, by kernel_rfl, by kernel_rfl⟩
    · cases h; exact ⟨add_ok, Try.f24, Try.func24, by kernel_rfl, by kernel_rfl⟩
    · cases h; exact ⟨sub_ok, Try.f25, Try.func25, by kernel_rfl, by kernel_rfl⟩
    · cases h; exact ⟨mul_ok, Try.f23, Try.func23, by kernel_rfl, by kernel_rfl⟩
    · cases h; exact ⟨quo_ok, Try.f26, Try.func26, by kernel_rfl, by kernel_rfl⟩
    · cases h
  · cases h


def lawP : List PSh := [⟨true, shP⟩]

theorem lawInside : (lawC lawP).ok Try.prog 6 := by
  refine contract Try.func6 v6_is A4_ok 800 (lawC lawP) fun args k h => ?_
  obtain ⟨ha, hk⟩ := h
  obtain ⟨_, _, rfl, h1, e1⟩ := okPL_cons_inv ha
  obtain ⟨cs, rfl, hcs⟩ := okP_agg_inv h1
  cases okPL_nil_inv e1
  obtain ⟨p, q, r, s, u, v, rfl, ⟨hp, hq⟩, ⟨hr, hs⟩, hu, hv⟩ := pair_of hcs
  refine ⟨[.agg [.int .i32 p, .int .i32 q, .int .i32 r, .int .i32 s, .int .u32 u, .int .u32 v]], ⟨leXL_le _ _ (leXL_self _) (by simp only [bndL_cons, bndL_nil, bnd_vs, bnd_int, and_self]), trivial⟩, ?_⟩
  have hk' : k (.bool true) [] := hk
  clear h1 ha hcs hk
  obtain ⟨ia, xl, xr⟩ := of_law hp hq hu
  obtain ⟨ib, yl, yr⟩ := of_law hr hs hv
  dsimp only [v6, A4_ct21, ofiC, enc2, r_end, r_end1, r_nil, r_op, r_opg, r_runOp, r_op0, r_yld0, r_yld1, r_y, r_rbeg, r_rend, r_rend1, r_rfrm, r_rfrm1, r_range, r_rangeK, r_rangeE, r_draw, r_dnil, r_dop, r_dopg, r_dplq, r_dplh, r_dq, r_dq0, r_dcl1, r_dcl0, r_dct1, r_dct0, r_dgd, r_dgq1, r_dgq0, r_dctG, r_op1, r_eff, r_eff0, r_call, r_call0, r_inl, r_g, r_gq, r_gc, r_effg, r_effg0, r_callg, r_callg0, r_fin, r_pre, r_imp, r_all, r_ex, r_fing, r_preg, r_exg, r_inBlock, r_inLoop, r_frame, r_frame1, r_skip, r_stuck, r_region, r_seq, r_cond, r_cond1, r_block, r_exit, r_exit1, r_exit2, r_ret, r_loop, s_args0, s_args1, s_xt, s_xc, padL, blankL, callee, callArgs, eff, ctOf, getL, setL, S.put, S.upd, unopts, unopt, unoptsO, unoptsB, lazyO, guardOf, gbool, eMov, eNot, eNeg, eConv, eExt, eLenArr, eLen, eLenStr, eEqb, eEqv, allEq, eNil, negIf, eBool2, eCmp, eAri, ari, eBit, eDiv, eSh, eMinMax, foldMin, foldMax, kEq, pure1, cmpB, VO.quiet, resVals, resVal, tupled, popRet, popTo, cond, Option.bind, Option.map, eNew, eBox, asCells, lenH, snocH, eFieldAddr, eField, eLoad, cellsAt, getH, setH, dropL, takeL, mkAgg, lenL, lenS, shift, shiftL, shiftH, viewN, viewL, view, andT, junks, List.append_nil, Nat.beq, eIdxAddr, eIdxArr, idxN_0, idxN_1, idxN_2, idxN_3, eIndex, eStore, storeAt, spliceL, ones, one, eSlice, eSliceArr, bounds, subLo_z, addLo_z, subLo_one, addLo_one, eMake, eAppend, readS, repL, buildCells, chunk, purgeL, purgeLL, purgeH, purge, refs, refsL, List.cons_append, List.nil_append, wrOps, wrAl, wrDops, wrC, junkAt, putAll, putHs, headOf, headK, keepG, List.append_eq, headX, chkP, apartP, apartB, blk, strip, runAl, AL.ho, yld, putPs, lenN, findR, notRound, jumpK, jumpPT, jcode, List.map_cons, List.map_nil, ite_self, reduceIte]
  simp only [true_and, and_true, imp_self, implies_true, decide_eq_true_eq, decide_eq_false_iff_not, Nat.reduceAdd, Nat.reduceLeDiff, Bool.not_not, reduceCtorEq, false_imp_iff, Bool.not_eq_true', Bool.not_eq_false', Bool.false_eq_true, and_self, forall_const, ne_eq, not_false_eq_true, Nat.reduceEqDiff]
  simp only [r32, u32] at hp hq hr hs hu hv
  generalize min p q = a1 at *
  generalize max p q = a2 at *
  generalize min r s = b1 at *
  generalize max r s = b2 at *
  generalize ofF p q u = x at *
  generalize ofF r s v = y at *
  refine ⟨by omega, by omega, by omega, by omega, by omega, by omega, ?_⟩
  refine Loop.keep [0, 0, 0, 0, 0, 0, 0, 0] Nat (fun i => [(7, .int .i64 i)]) (fun i => []) [] (fun i => i ≤ 4) (fun i => 4 - i) ?_ ?_
  · refine ⟨0, by omega, ?_⟩
    dsimp only [r_end, r_end1, r_nil, r_op, r_opg, r_runOp, r_op0, r_yld0, r_yld1, r_y, r_rbeg, r_rend, r_rend1, r_rfrm, r_rfrm1, r_range, r_rangeK, r_rangeE, r_draw, r_dnil, r_dop, r_dopg, r_dplq, r_dplh, r_dq, r_dq0, r_dcl1, r_dcl0, r_dct1, r_dct0, r_dgd, r_dgq1, r_dgq0, r_dctG, r_op1, r_eff, r_eff0, r_call, r_call0, r_inl, r_g, r_gq, r_gc, r_effg, r_effg0, r_callg, r_callg0, r_fin, r_pre, r_imp, r_all, r_ex, r_fing, r_preg, r_exg, r_inBlock, r_inLoop, r_frame, r_frame1, r_skip, r_stuck, r_region, r_seq, r_cond, r_cond1, r_block, r_exit, r_exit1, r_exit2, r_ret, r_loop, s_args0, s_args1, s_xt, s_xc, padL, blankL, callee, callArgs, eff, ctOf, getL, setL, S.put, S.upd, unopts, unopt, unoptsO, unoptsB, lazyO, guardOf, gbool, eMov, eNot, eNeg, eConv, eExt, eLenArr, eLen, eLenStr, eEqb, eEqv, allEq, eNil, negIf, eBool2, eCmp, eAri, ari, eBit, eDiv, eSh, eMinMax, foldMin, foldMax, kEq, pure1, cmpB, VO.quiet, resVals, resVal, tupled, popRet, popTo, cond, Option.bind, Option.map, eNew, eBox, asCells, lenH, snocH, eFieldAddr, eField, eLoad, cellsAt, getH, setH, dropL, takeL, mkAgg, lenL, lenS, shift, shiftL, shiftH, viewN, viewL, view, andT, junks, List.append_nil, Nat.beq, eIdxAddr, eIdxArr, idxN_0, idxN_1, idxN_2, idxN_3, eIndex, eStore, storeAt, spliceL, ones, one, eSlice, eSliceArr, bounds, subLo_z, addLo_z, subLo_one, addLo_one, eMake, eAppend, readS, repL, buildCells, chunk, purgeL, purgeLL, purgeH, purge, refs, refsL, List.cons_append, List.nil_append, wrOps, wrAl, wrDops, wrC, junkAt, putAll, putHs, headOf, headK, keepG, List.append_eq, headX, chkP, apartP, apartB, blk, strip, runAl, AL.ho, yld, putPs, lenN, findR, notRound, jumpK, jumpPT, jcode, List.map_cons, List.map_nil, ite_self, reduceIte]
    simp only [leS_mk, leL_cons, leL_nil, le_junk, le_int, le_bool, le_nil, leLL_nil, leLL_cons, leH_cons, leH_nil, leH1_box, leH1_own, leH1_gone, le_vs, le_agg, le_tup, le_ptr, le_own, le_xp, le_fn, le_opt, le_val, le_elem, le_nil_own, le_nil_vs, leH_ghost, leL_chunk, leXL_id, bnd_int, bnd_bool, bnd_val, bnd_nil, bnd_junk, bnd_vs, bnd_xp, bnd_agg, bnd_tup, bnd_ptr, bnd_own, bnd_elem, bnd_fn, bnd_iface, bnd_opt, bndL_nil, bndL_cons, lenH_cons, lenH_nil, imp_self, implies_true, true_and, and_true]
    simp
  · rintro i hi
    dsimp only [enc2, Int.toNat_natCast, A4_ct27, A4_ct28, A4_ct29, A4_ct16, A4_ct24, A4_ct25, A4_ct23, A4_ct26, inC, valC, corC, trueC, addC, subC, mulC, quoC, iv2C, r_end, r_end1, r_nil, r_op, r_opg, r_runOp, r_op0, r_yld0, r_yld1, r_y, r_rbeg, r_rend, r_rend1, r_rfrm, r_rfrm1, r_range, r_rangeK, r_rangeE, r_draw, r_dnil, r_dop, r_dopg, r_dplq, r_dplh, r_dq, r_dq0, r_dcl1, r_dcl0, r_dct1, r_dct0, r_dgd, r_dgq1, r_dgq0, r_dctG, r_op1, r_eff, r_eff0, r_call, r_call0, r_inl, r_g, r_gq, r_gc, r_effg, r_effg0, r_callg, r_callg0, r_fin, r_pre, r_imp, r_all, r_ex, r_fing, r_preg, r_exg, r_inBlock, r_inLoop, r_frame, r_frame1, r_skip, r_stuck, r_region, r_seq, r_cond, r_cond1, r_block, r_exit, r_exit1, r_exit2, r_ret, r_loop, s_args0, s_args1, s_xt, s_xc, padL, blankL, callee, callArgs, eff, ctOf, getL, setL, S.put, S.upd, unopts, unopt, unoptsO, unoptsB, lazyO, guardOf, gbool, eMov, eNot, eNeg, eConv, eExt, eLenArr, eLen, eLenStr, eEqb, eEqv, allEq, eNil, negIf, eBool2, eCmp, eAri, ari, eBit, eDiv, eSh, eMinMax, foldMin, foldMax, kEq, pure1, cmpB, VO.quiet, resVals, resVal, tupled, popRet, popTo, cond, Option.bind, Option.map, eNew, eBox, asCells, lenH, snocH, eFieldAddr, eField, eLoad, cellsAt, getH, setH, dropL, takeL, mkAgg, lenL, lenS, shift, shiftL, shiftH, viewN, viewL, view, andT, junks, List.append_nil, Nat.beq, eIdxAddr, eIdxArr, idxN_0, idxN_1, idxN_2, idxN_3, eIndex, eStore, storeAt, spliceL, ones, one, eSlice, eSliceArr, bounds, subLo_z, addLo_z, subLo_one, addLo_one, eMake, eAppend, readS, repL, buildCells, chunk, purgeL, purgeLL, purgeH, purge, refs, refsL, List.cons_append, List.nil_append, wrOps, wrAl, wrDops, wrC, junkAt, putAll, putHs, headOf, headK, keepG, List.append_eq, headX, chkP, apartP, apartB, blk, strip, runAl, AL.ho, yld, putPs, lenN, findR, notRound, jumpK, jumpPT, jcode, List.map_cons, List.map_nil, ite_self, reduceIte]
    simp only [true_and, and_true, imp_self, implies_true, decide_eq_true_eq, decide_eq_false_iff_not, Nat.reduceAdd, Nat.reduceLeDiff, Bool.not_not, reduceCtorEq, false_imp_iff, Bool.not_eq_true', Bool.not_eq_false', Bool.false_eq_true, and_self, forall_const, ne_eq, not_false_eq_true, Nat.reduceEqDiff]
    obtain ⟨i1, i2, i3⟩ := ia
    obtain ⟨j1, j2, j3⟩ := ib
    dsimp only at i1 i2 i3 j1 j2 j3
    have ia : iv31 (a1, a2) := ⟨i1, i2, i3⟩
    have ib : iv31 (b1, b2) := ⟨j1, j2, j3⟩
    simp only [in31]
    refine ⟨fun hlt => ⟨fun c0 => ?_, fun c0 => ⟨fun c1 => ?_, fun c1 => ⟨fun c2 => ?_, fun c2 => ⟨by decide, by decide, fun cz => ⟨fun hn => ?_, fun hn => ?_⟩, fun cz => ?_⟩⟩⟩⟩, fun hge => ans_bool hk'⟩
    · obtain rfl : i = 0 := by omega
      have H := inside31 ia ib xl xr yl yr ((0 : Nat) : Int) (by first | exact Or.inl (by decide) | (refine Or.inr ?_; simp only [Bool.and_eq_false_iff, decide_eq_false_iff_not] at cz; dsimp only; omega))
      rw [show opF (a1, a2) (b1, b2) ((0 : Nat) : Int) = addF (a1, a2) (b1, b2) from if_pos rfl] at H
      have hw : IntKind.i64.wrap (((0 : Nat) : Int) + 1) = ((1 : Nat) : Int) := by rw [IntWalk.i64_in _ (by omega)]; rfl
      refine ⟨by decide, by decide, by omega, fun _ => by omega, fun hb => absurd (ok_cond H) (by rw [hb]; decide), fun _ => ⟨1, by omega, by omega, ?_⟩⟩
      simp only [hw, leS_mk, leL_cons, leL_nil, le_junk, le_int, le_bool, le_nil, leLL_nil, leLL_cons, leH_cons, leH_nil, leH1_box, leH1_own, leH1_gone, le_vs, le_agg, le_tup, le_ptr, le_own, le_xp, le_fn, le_opt, le_val, le_elem, le_nil_own, le_nil_vs, leH_ghost, leL_chunk, leXL_id, bnd_int, bnd_bool, bnd_val, bnd_nil, bnd_junk, bnd_vs, bnd_xp, bnd_agg, bnd_tup, bnd_ptr, bnd_own, bnd_elem, bnd_fn, bnd_iface, bnd_opt, bndL_nil, bndL_cons, lenH_cons, lenH_nil, imp_self, implies_true, true_and, and_true] <;> simp
    · obtain rfl : i = 1 := by omega
      have H := inside31 ia ib xl xr yl yr ((1 : Nat) : Int) (by first | exact Or.inl (by decide) | (refine Or.inr ?_; simp only [Bool.and_eq_false_iff, decide_eq_false_iff_not] at cz; dsimp only; omega))
      rw [show opF (a1, a2) (b1, b2) ((1 : Nat) : Int) = subF (a1, a2) (b1, b2) from (if_neg (by decide)).trans (if_pos rfl)] at H
      have hw : IntKind.i64.wrap (((1 : Nat) : Int) + 1) = ((2 : Nat) : Int) := by rw [IntWalk.i64_in _ (by omega)]; rfl
      refine ⟨by decide, by decide, by omega, fun _ => by omega, fun hb => absurd (ok_cond H) (by rw [hb]; decide), fun _ => ⟨2, by omega, by omega, ?_⟩⟩
      simp only [hw, leS_mk, leL_cons, leL_nil, le_junk, le_int, le_bool, le_nil, leLL_nil, leLL_cons, leH_cons, leH_nil, leH1_box, leH1_own, leH1_gone, le_vs, le_agg, le_tup, le_ptr, le_own, le_xp, le_fn, le_opt, le_val, le_elem, le_nil_own, le_nil_vs, leH_ghost, leL_chunk, leXL_id, bnd_int, bnd_bool, bnd_val, bnd_nil, bnd_junk, bnd_vs, bnd_xp, bnd_agg, bnd_tup, bnd_ptr, bnd_own, bnd_elem, bnd_fn, bnd_iface, bnd_opt, bndL_nil, bndL_cons, lenH_cons, lenH_nil, imp_self, implies_true, true_and, and_true] <;> simp
    · obtain rfl : i = 2 := by omega
      have H := inside31 ia ib xl xr yl yr ((2 : Nat) : Int) (by first | exact Or.inl (by decide) | (refine Or.inr ?_; simp only [Bool.and_eq_false_iff, decide_eq_false_iff_not] at cz; dsimp only; omega))
      rw [show opF (a1, a2) (b1, b2) ((2 : Nat) : Int) = mulF (a1, a2) (b1, b2) from (if_neg (by decide)).trans ((if_neg (by decide)).trans (if_pos rfl))] at H
      have hw : IntKind.i64.wrap (((2 : Nat) : Int) + 1) = ((3 : Nat) : Int) := by rw [IntWalk.i64_in _ (by omega)]; rfl
      refine ⟨by decide, by decide, by omega, fun _ => by omega, fun hb => absurd (ok_cond H) (by rw [hb]; decide), fun _ => ⟨3, by omega, by omega, ?_⟩⟩
      simp only [hw, leS_mk, leL_cons, leL_nil, le_junk, le_int, le_bool, le_nil, leLL_nil, leLL_cons, leH_cons, leH_nil, leH1_box, leH1_own, leH1_gone, le_vs, le_agg, le_tup, le_ptr, le_own, le_xp, le_fn, le_opt, le_val, le_elem, le_nil_own, le_nil_vs, leH_ghost, leL_chunk, leXL_id, bnd_int, bnd_bool, bnd_val, bnd_nil, bnd_junk, bnd_vs, bnd_xp, bnd_agg, bnd_tup, bnd_ptr, bnd_own, bnd_elem, bnd_fn, bnd_iface, bnd_opt, bndL_nil, bndL_cons, lenH_cons, lenH_nil, imp_self, implies_true, true_and, and_true] <;> simp
    · exfalso
      simp only [Bool.and_eq_true, decide_eq_true_eq] at cz
      exact hn (by rw [quo_down ia ib cz]; rfl)
    · have hw : IntKind.i64.wrap ((i : Int) + 1) = ((4 : Nat) : Int) := by rw [IntWalk.i64_in _ (by omega)]; omega
      refine ⟨4, by omega, by omega, ?_⟩
      simp only [hw, leS_mk, leL_cons, leL_nil, le_junk, le_int, le_bool, le_nil, leLL_nil, leLL_cons, leH_cons, leH_nil, leH1_box, leH1_own, leH1_gone, le_vs, le_agg, le_tup, le_ptr, le_own, le_xp, le_fn, le_opt, le_val, le_elem, le_nil_own, le_nil_vs, leH_ghost, leL_chunk, leXL_id, bnd_int, bnd_bool, bnd_val, bnd_nil, bnd_junk, bnd_vs, bnd_xp, bnd_agg, bnd_tup, bnd_ptr, bnd_own, bnd_elem, bnd_fn, bnd_iface, bnd_opt, bndL_nil, bndL_cons, lenH_cons, lenH_nil, imp_self, implies_true, true_and, and_true] <;> simp
    · obtain rfl : i = 3 := by omega
      have H := inside31 ia ib xl xr yl yr ((3 : Nat) : Int) (by first | exact Or.inl (by decide) | (refine Or.inr ?_; simp only [Bool.and_eq_false_iff, decide_eq_false_iff_not] at cz; dsimp only; omega))
      rw [show opF (a1, a2) (b1, b2) ((3 : Nat) : Int) = quoF (a1, a2) (b1, b2) from (if_neg (by decide)).trans ((if_neg (by decide)).trans (if_neg (by decide)))] at H
      have hw : IntKind.i64.wrap (((3 : Nat) : Int) + 1) = ((4 : Nat) : Int) := by rw [IntWalk.i64_in _ (by omega)]; rfl
      simp only [Bool.and_eq_false_iff, decide_eq_false_iff_not] at cz
      refine ⟨by omega, fun _ => by omega, fun hb => absurd (ok_cond H) (by rw [hb]; decide), fun _ => ⟨4, by omega, by omega, ?_⟩⟩
      simp only [hw, leS_mk, leL_cons, leL_nil, le_junk, le_int, le_bool, le_nil, leLL_nil, leLL_cons, leH_cons, leH_nil, leH1_box, leH1_own, leH1_gone, le_vs, le_agg, le_tup, le_ptr, le_own, le_xp, le_fn, le_opt, le_val, le_elem, le_nil_own, le_nil_vs, leH_ghost, leL_chunk, leXL_id, bnd_int, bnd_bool, bnd_val, bnd_nil, bnd_junk, bnd_vs, bnd_xp, bnd_agg, bnd_tup, bnd_ptr, bnd_own, bnd_elem, bnd_fn, bnd_iface, bnd_opt, bndL_nil, bndL_cons, lenH_cons, lenH_nil, imp_self, implies_true, true_and, and_true] <;> simp

end Go.Proofs.Ytdognchniaojoaa
