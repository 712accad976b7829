/- Fractions, walked: Valid, Proper, badq, lowest. -/
import Derived.Test.YtdognchniaojoaaR3
import Derived.Test.YtdognchniaojoaaN3
set_option linter.all false
namespace Go.Proofs.Ytdognchniaojoaa
open Go Go.Vx
set_option maxRecDepth 100000
set_option maxHeartbeats 4000000

def v89 : VF := { ntmps := 20, res := [.tmp 2], body :=
 (.seq (.region [⟨(some 2), none, .mov, [.cn (.bool false)]⟩])
 (.seq (.region [⟨(some 3), none, .mov, [.tm 0]⟩,
  ⟨(some 4), none, .len, [.tm 3]⟩,
  ⟨(some 5), none, (.cmp .leq), [.tm 4, .cn (.int .i64 512)]⟩,
  ⟨(some 6), none, .mov, [.tm 5]⟩,
  ⟨(some 7), (some (6, true)), .mov, [.tm 0]⟩,
  ⟨(some 8), (some (6, true)), .len, [.tm 7]⟩,
  ⟨(some 9), (some (6, true)), (.cmp .eql), [.tm 8, .cn (.int .i64 0)]⟩,
  ⟨(some 10), (some (6, true)), .mov, [.tm 9]⟩,
  ⟨(some 11), (some (10, false)), .mov, [.tm 0]⟩,
  ⟨(some 12), (some (10, false)), .mov, [.tm 0]⟩,
  ⟨(some 13), (some (10, false)), .len, [.tm 12]⟩,
  ⟨(some 14), (some (10, false)), (.ari .sub), [.tm 13, .cn (.int .i64 1)]⟩,
  ⟨(some 15), (some (10, false)), (.idxAddr 1), [.tm 11, .tm 14]⟩,
  ⟨(some 16), (some (10, false)), (.load false 1), [.tm 15]⟩,
  ⟨(some 17), (some (10, false)), (.cmp .neq), [.tm 16, .cn (.int .u32 0)]⟩,
  ⟨(some 18), (some (6, true)), .or, [.tm 10, .tm 17]⟩,
  ⟨(some 19), none, .and, [.tm 6, .tm 18]⟩,
  ⟨(some 2), none, .mov, [.tm 19]⟩])
 .ret)) }
theorem v89_is : vfunc Try.prog Try.f89 = some v89 := by kernel_rfl
def v86 : VF := { ntmps := 19, res := [.tmp 4], body :=
 (.seq (.region [⟨(some 4), none, .mov, [.cn .nil]⟩])
 (.seq (.block 0 (.loop (.seq (.seq (.region [⟨(some 7), none, .mov, [.tm 1]⟩,
  ⟨(some 8), none, .len, [.tm 7]⟩,
  ⟨(some 9), none, (.cmp .gtr), [.tm 8, .cn (.int .i64 0)]⟩])
 (.cond (.tm 9) .skip
  (.exit 0)))
 (.block 1 (.seq (.region [⟨(some 11), none, .mov, [.tm 0]⟩,
  ⟨(some 12), none, .mov, [.tm 1]⟩,
  ⟨(some 13), none, (.call 87), [.tm 11, .tm 12]⟩,
  ⟨(some 10), none, .mov, [.tm 13]⟩,
  ⟨(some 14), none, (.ext 0), [.tm 10]⟩,
  ⟨(some 15), none, (.ext 1), [.tm 10]⟩,
  ⟨(some 5), none, .mov, [.tm 14]⟩,
  ⟨(some 6), none, .mov, [.tm 15]⟩])
 (.region [⟨(some 16), none, .mov, [.tm 1]⟩,
  ⟨(some 17), none, .mov, [.tm 6]⟩,
  ⟨(some 0), none, .mov, [.tm 16]⟩,
  ⟨(some 1), none, .mov, [.tm 17]⟩]))))))
 (.seq (.region [⟨(some 18), none, .mov, [.tm 0]⟩,
  ⟨(some 4), none, .mov, [.tm 18]⟩])
 .ret))) }
theorem v86_is : vfunc Try.prog Try.f86 = some v86 := by kernel_rfl
def v85 : VF := { ntmps := 44, res := [.tmp 2], body :=
 (.seq (.region [⟨(some 1), none, .box, [.tm 0]⟩,
  ⟨(some 2), none, .mov, [.cn (.bool false)]⟩])
 (.seq (.seq (.draw [] [⟨⟨(some 3), none, (.fieldAddr 1), [.tm 1]⟩, []⟩,
  ⟨⟨(some 4), none, (.load false 1), [.tm 3]⟩, []⟩,
  ⟨⟨(some 5), none, (.call 89), [.tm 4]⟩, []⟩,
  ⟨⟨(some 6), none, .not, [.tm 5]⟩, []⟩,
  ⟨⟨(some 7), none, .mov, [.tm 6]⟩, []⟩,
  ⟨⟨(some 8), (some (7, false)), (.fieldAddr 2), [.tm 1]⟩, []⟩,
  ⟨⟨(some 9), (some (7, false)), (.load false 1), [.tm 8]⟩, []⟩,
  ⟨⟨(some 10), (some (7, false)), (.call 89), [.tm 9]⟩, []⟩,
  ⟨⟨(some 11), (some (7, false)), .not, [.tm 10]⟩, []⟩,
  ⟨⟨(some 12), none, .or, [.tm 7, .tm 11]⟩, []⟩,
  ⟨⟨(some 13), none, .mov, [.tm 12]⟩, []⟩,
  ⟨⟨(some 14), (some (13, false)), (.fieldAddr 2), [.tm 1]⟩, []⟩,
  ⟨⟨(some 15), (some (13, false)), (.load false 1), [.tm 14]⟩, []⟩,
  ⟨⟨(some 16), (some (13, false)), .len, [.tm 15]⟩, []⟩,
  ⟨⟨(some 17), (some (13, false)), (.cmp .eql), [.tm 16, .cn (.int .i64 0)]⟩, []⟩,
  ⟨⟨(some 18), none, .or, [.tm 13, .tm 17]⟩, []⟩,
  ⟨⟨(some 19), none, .mov, [.tm 18]⟩, []⟩,
  ⟨⟨(some 20), (some (19, false)), (.fieldAddr 1), [.tm 1]⟩, []⟩,
  ⟨⟨(some 21), (some (19, false)), (.load false 1), [.tm 20]⟩, []⟩,
  ⟨⟨(some 22), (some (19, false)), .len, [.tm 21]⟩, []⟩,
  ⟨⟨(some 23), (some (19, false)), (.cmp .eql), [.tm 22, .cn (.int .i64 0)]⟩, []⟩,
  ⟨⟨(some 24), (some (19, false)), .mov, [.tm 23]⟩, []⟩,
  ⟨⟨(some 25), (some (24, true)), (.fieldAddr 0), [.tm 1]⟩, []⟩,
  ⟨⟨(some 26), (some (24, true)), (.load false 1), [.tm 25]⟩, []⟩,
  ⟨⟨(some 27), (some (24, true)), .mov, [.tm 26]⟩, []⟩,
  ⟨⟨(some 28), (some (27, false)), (.fieldAddr 2), [.tm 1]⟩, []⟩,
  ⟨⟨(some 29), (some (27, false)), (.load false 1), [.tm 28]⟩, []⟩,
  ⟨⟨(some 30), (some (27, false)), (.call 55), [.cn (.int .u64 1)]⟩, []⟩,
  ⟨⟨(some 31), (some (27, false)), (.call 58), [.tm 29, .tm 30]⟩, []⟩,
  ⟨⟨(some 32), (some (27, false)), (.cmp .neq), [.tm 31, .cn (.int .i64 0)]⟩, []⟩,
  ⟨⟨(some 33), (some (24, true)), .or, [.tm 27, .tm 32]⟩, []⟩,
  ⟨⟨(some 34), (some (19, false)), .and, [.tm 24, .tm 33]⟩, []⟩,
  ⟨⟨(some 35), none, .or, [.tm 19, .tm 34]⟩, []⟩])
 (.cond (.tm 35) (.seq (.region [⟨(some 2), none, .mov, [.cn (.bool false)]⟩])
 .ret)
  .skip))
 (.seq (.region [⟨(some 36), none, (.fieldAddr 1), [.tm 1]⟩,
  ⟨(some 37), none, (.load false 1), [.tm 36]⟩,
  ⟨(some 38), none, (.fieldAddr 2), [.tm 1]⟩,
  ⟨(some 39), none, (.load false 1), [.tm 38]⟩,
  ⟨(some 40), none, (.call 86), [.tm 37, .tm 39]⟩,
  ⟨(some 41), none, (.call 55), [.cn (.int .u64 1)]⟩,
  ⟨(some 42), none, (.call 58), [.tm 40, .tm 41]⟩,
  ⟨(some 43), none, (.cmp .eql), [.tm 42, .cn (.int .i64 0)]⟩,
  ⟨(some 2), none, .mov, [.tm 43]⟩])
 .ret))) }
theorem v85_is : vfunc Try.prog Try.f85 = some v85 := by kernel_rfl
def v69 : VF := { ntmps := 39, res := [.tmp 2], body :=
 (.seq (.region [⟨(some 2), none, .mov, [.cn (.int .i64 0)]⟩])
 (.seq (.seq (.region [⟨(some 3), none, .mov, [.cn (.int .i64 0)]⟩])
 (.block 0 (.loop (.seq (.seq (.region [⟨(some 5), none, .mov, [.tm 3]⟩,
  ⟨(some 6), none, .mov, [.tm 0]⟩,
  ⟨(some 7), none, .len, [.tm 6]⟩,
  ⟨(some 8), none, (.cmp .lss), [.tm 5, .tm 7]⟩])
 (.cond (.tm 8) .skip
  (.exit 0)))
 (.seq (.block 1 (.seq (.region [⟨(some 11), none, .mov, [.tm 0]⟩,
  ⟨(some 12), none, .mov, [.tm 3]⟩,
  ⟨(some 13), none, (.idxAddr 3), [.tm 11, .tm 12]⟩,
  ⟨(some 14), none, (.fieldAddr 1), [.tm 13]⟩,
  ⟨(some 15), none, (.load false 1), [.tm 14]⟩,
  ⟨(some 16), none, .len, [.tm 15]⟩,
  ⟨(some 17), none, (.cmp .gtr), [.tm 16, .cn (.int .i64 512)]⟩,
  ⟨(some 18), none, .mov, [.tm 17]⟩,
  ⟨(some 19), (some (18, false)), .mov, [.tm 0]⟩,
  ⟨(some 20), (some (18, false)), .mov, [.tm 3]⟩,
  ⟨(some 21), (some (18, false)), (.idxAddr 3), [.tm 19, .tm 20]⟩,
  ⟨(some 22), (some (18, false)), (.fieldAddr 2), [.tm 21]⟩,
  ⟨(some 23), (some (18, false)), (.load false 1), [.tm 22]⟩,
  ⟨(some 24), (some (18, false)), .len, [.tm 23]⟩,
  ⟨(some 25), (some (18, false)), (.cmp .gtr), [.tm 24, .cn (.int .i64 512)]⟩,
  ⟨(some 26), none, .or, [.tm 18, .tm 25]⟩])
 (.cond (.tm 26) (.seq (.region [⟨(some 2), none, .mov, [.cn (.int .i64 3)]⟩])
 .ret)
  .skip)))
 (.region [⟨(some 9), none, .mov, [.tm 3]⟩,
  ⟨(some 10), none, (.ari .add), [.tm 9, .cn (.int .i64 1)]⟩,
  ⟨(some 3), none, .mov, [.tm 10]⟩]))))))
 (.seq (.seq (.region [⟨(some 4), none, .mov, [.cn (.int .i64 0)]⟩])
 (.block 2 (.loop (.seq (.seq (.region [⟨(some 27), none, .mov, [.tm 4]⟩,
  ⟨(some 28), none, .mov, [.tm 0]⟩,
  ⟨(some 29), none, .len, [.tm 28]⟩,
  ⟨(some 30), none, (.cmp .lss), [.tm 27, .tm 29]⟩])
 (.cond (.tm 30) .skip
  (.exit 2)))
 (.seq (.block 3 (.seq (.region [⟨(some 33), none, .mov, [.tm 0]⟩,
  ⟨(some 34), none, .mov, [.tm 4]⟩,
  ⟨(some 35), none, (.idxAddr 3), [.tm 33, .tm 34]⟩,
  ⟨(some 36), none, (.load true 3), [.tm 35]⟩,
  ⟨(some 37), none, (.call 85), [.tm 36]⟩,
  ⟨(some 38), none, .not, [.tm 37]⟩])
 (.cond (.tm 38) (.seq (.region [⟨(some 2), none, .mov, [.cn (.int .i64 2)]⟩])
 .ret)
  .skip)))
 (.region [⟨(some 31), none, .mov, [.tm 4]⟩,
  ⟨(some 32), none, (.ari .add), [.tm 31, .cn (.int .i64 1)]⟩,
  ⟨(some 4), none, .mov, [.tm 32]⟩]))))))
 (.seq (.region [⟨(some 2), none, .mov, [.cn (.int .i64 0)]⟩])
 .ret)))) }
theorem v69_is : vfunc Try.prog Try.f69 = some v69 := by kernel_rfl
def v70 : VF := { ntmps := 46, res := [.cell 6 true 3, .tmp 7], body :=
 (.seq (.region [⟨(some 6), none, (.alloc [(.bool false), .nil, .nil]), []⟩,
  ⟨(some 7), none, .mov, [.cn (.int .i64 0)]⟩])
 (.seq (.region [⟨(some 13), none, .mov, [.tm 1]⟩,
  ⟨(some 14), none, .mov, [.tm 2]⟩,
  ⟨(some 15), none, (.call 86), [.tm 13, .tm 14]⟩,
  ⟨(some 8), none, .mov, [.tm 15]⟩])
 (.seq (.region [⟨(some 17), none, .mov, [.tm 1]⟩,
  ⟨(some 18), none, .mov, [.tm 8]⟩,
  ⟨(some 19), none, (.call 87), [.tm 17, .tm 18]⟩,
  ⟨(some 16), none, .mov, [.tm 19]⟩,
  ⟨(some 20), none, (.ext 0), [.tm 16]⟩,
  ⟨(some 21), none, (.ext 1), [.tm 16]⟩,
  ⟨(some 9), none, .mov, [.tm 20]⟩,
  ⟨(some 10), none, .mov, [.tm 21]⟩])
 (.seq (.region [⟨(some 23), none, .mov, [.tm 2]⟩,
  ⟨(some 24), none, .mov, [.tm 8]⟩,
  ⟨(some 25), none, (.call 87), [.tm 23, .tm 24]⟩,
  ⟨(some 22), none, .mov, [.tm 25]⟩,
  ⟨(some 26), none, (.ext 0), [.tm 22]⟩,
  ⟨(some 27), none, (.ext 1), [.tm 22]⟩,
  ⟨(some 11), none, .mov, [.tm 26]⟩,
  ⟨(some 12), none, .mov, [.tm 27]⟩])
 (.seq (.seq (.region [⟨(some 28), none, .mov, [.tm 9]⟩,
  ⟨(some 29), none, .len, [.tm 28]⟩,
  ⟨(some 30), none, (.cmp .gtr), [.tm 29, .cn (.int .i64 512)]⟩,
  ⟨(some 31), none, .mov, [.tm 30]⟩,
  ⟨(some 32), (some (31, false)), .mov, [.tm 11]⟩,
  ⟨(some 33), (some (31, false)), .len, [.tm 32]⟩,
  ⟨(some 34), (some (31, false)), (.cmp .gtr), [.tm 33, .cn (.int .i64 512)]⟩,
  ⟨(some 35), none, .or, [.tm 31, .tm 34]⟩])
 (.cond (.tm 35) (.seq (.region [⟨(some 36), none, (.build [(.bool false), .nil, .nil] []), []⟩,
  ⟨none, none, (.store 3), [.tm 6, .tm 36]⟩,
  ⟨(some 7), none, .mov, [.cn (.int .i64 3)]⟩])
 .ret)
  .skip))
 (.seq (.region [⟨(some 37), none, .mov, [.tm 0]⟩,
  ⟨(some 38), none, .mov, [.tm 37]⟩,
  ⟨(some 39), (some (38, true)), .mov, [.tm 9]⟩,
  ⟨(some 40), (some (38, true)), .len, [.tm 39]⟩,
  ⟨(some 41), (some (38, true)), (.cmp .gtr), [.tm 40, .cn (.int .i64 0)]⟩,
  ⟨(some 42), none, .and, [.tm 38, .tm 41]⟩,
  ⟨(some 43), none, .mov, [.tm 9]⟩,
  ⟨(some 44), none, .mov, [.tm 11]⟩,
  ⟨(some 45), none, (.build [(.bool false), .nil, .nil] [(0, 1), (1, 1), (2, 1)]), [.tm 42, .tm 43, .tm 44]⟩,
  ⟨none, none, (.store 3), [.tm 6, .tm 45]⟩,
  ⟨(some 7), none, .mov, [.cn (.int .i64 0)]⟩])
 .ret)))))) }
theorem v70_is : vfunc Try.prog Try.f70 = some v70 := by kernel_rfl


abbrev Fr := Int × Nat
/-- A number's slice. -/
def natV (t z : Bool) (a : Nat) : SV := .vs t z (nl a) 1 (fun k => [.int .u32 (dig a k)])
def encF (t : Bool) (p : Fr) : List SV := [.bool (decide (p.1 < 0)), natV t false (rnum p.1 p.2), natV t false (rden p.1 p.2)]
/-- A fraction whose terms are not too long. -/
def frOk (p : Fr) : Prop := 0 < p.2 ∧ nl (rnum p.1 p.2) ≤ 512 ∧ nl (rden p.1 p.2) ≤ 512
/-- A fraction came in. -/
def fracP (p : Fr) (neg z1 : Bool) (n1 s1 : Nat) (g1 : Nat → List SV) (z2 : Bool) (n2 s2 : Nat) (g2 : Nat → List SV) : Prop :=
  frOk p ∧ neg = decide (p.1 < 0) ∧ z1 = false ∧ z2 = false ∧ s1 = 1 ∧ s2 = 1 ∧ n1 = nl (rnum p.1 p.2) ∧ n2 = nl (rden p.1 p.2) ∧
    (∀ k, k < n1 → leXL (g1 k) [.int .u32 (dig (rnum p.1 p.2) k)]) ∧ ∀ k, k < n2 → leXL (g2 k) [.int .u32 (dig (rden p.1 p.2) k)]
theorem fracP_self {p : Fr} (h : frOk p) : fracP p (decide (p.1 < 0)) false (nl (rnum p.1 p.2)) 1 (fun k => [.int .u32 (dig (rnum p.1 p.2) k)]) false (nl (rden p.1 p.2)) 1 (fun k => [.int .u32 (dig (rden p.1 p.2) k)]) :=
  ⟨h, rfl, rfl, rfl, rfl, rfl, rfl, rfl, fun k _ => leXL_self _, fun k _ => leXL_self _⟩

def validC : Ctr := { alias := false, of := fun l => match l with
  | [.vs _ _ n sz get] => .ex Nat fun a => .pre (padP a n sz get) (.fin (.bool (decide (n ≤ 512) && decide (n = nl a))) [])
  | _ => noC }
def properC : Ctr := { alias := false, of := fun l => match l with
  | [.agg [.bool neg, .vs _ z1 n1 s1 g1, .vs _ z2 n2 s2 g2]] => .ex Fr fun p => .pre (fracP p neg z1 n1 s1 g1 z2 n2 s2 g2) (.fin (.bool true) [])
  | _ => noC }
def badqC : Ctr := { alias := false, of := fun l => match l with
  | [.vs _ _ n sz get] => .ex (List Fr) fun l => .pre (lsP 3 (encF false) n sz get l ∧ l.length ≤ 1000 ∧ ∀ p ∈ l, frOk p) (.fin (.int .i64 0) [])
  | _ => noC }
def lowestC : Ctr := { alias := false, of := fun l => match l with
  | [.bool neg, .vs _ _ n sz get, .vs _ _ m sz' get'] => .ex Nat fun a => .ex Nat fun b => .pre (padP a n sz get ∧ n = nl a ∧ padP b m sz' get' ∧ m = nl b ∧ 0 < b ∧ n ≤ 9999 ∧ m ≤ 9999 ∧ frOk (nsg neg a, b)) (.fin (.tup [.agg (encF true (nsg neg a, b)), .int .i64 0]) [])
  | _ => noC }

theorem valid_ok : validC.ok Try.prog 89 := by
  refine contract Try.func89 v89_is R1_ok 200 validC fun args k h => ?_
  simp only [validC] at h
  split at h
  · rename_i t1 z1 n sz get
    obtain ⟨a, ⟨rfl, hn, ha, hg⟩, h⟩ := h
    refine ⟨[.vs t1 z1 n 1 (fun k => [.int .u32 (dig a k)])], by simpa [leL, le] using hg, ?_⟩
    dsimp only [v89, r_end, r_end1, r_nil, r_op, r_opg, r_runOp, r_op0, r_yld0, r_yld1, r_y, r_rbeg, r_rend, r_rend1, r_rfrm, r_rfrm1, r_range, r_rangeK, r_rangeE, r_draw, r_dnil, r_dop, r_dopg, r_dplq, r_dplh, r_dq, r_dq0, r_dcl1, r_dcl0, r_dct1, r_dct0, r_dgd, r_dgq1, r_dgq0, r_dctG, r_op1, r_eff, r_eff0, r_call, r_call0, r_inl, r_g, r_gq, r_gc, r_effg, r_effg0, r_callg, r_callg0, r_fin, r_pre, r_imp, r_all, r_ex, r_fing, r_preg, r_exg, r_inBlock, r_inLoop, r_frame, r_frame1, r_skip, r_stuck, r_region, r_seq, r_cond, r_cond1, r_block, r_exit, r_exit1, r_exit2, r_ret, r_loop, s_args0, s_args1, s_xt, s_xc, padL, blankL, callee, callArgs, eff, ctOf, getL, setL, S.put, S.upd, unopts, unopt, unoptsO, unoptsB, lazyO, guardOf, gbool, eMov, eNot, eNeg, eConv, eExt, eLenArr, eLen, eLenStr, eEqb, eEqv, allEq, eNil, negIf, eBool2, eCmp, eAri, ari, eBit, eDiv, eSh, eMinMax, foldMin, foldMax, kEq, pure1, cmpB, VO.quiet, resVals, resVal, tupled, popRet, popTo, cond, Option.bind, Option.map, eNew, eBox, asCells, lenH, snocH, eFieldAddr, eField, eLoad, cellsAt, getH, setH, dropL, takeL, mkAgg, lenL, lenS, shift, shiftL, shiftH, viewN, viewL, view, andT, junks, List.append_nil, Nat.beq, eIdxAddr, eIdxArr, idxN_0, idxN_1, idxN_2, idxN_3, eIndex, eStore, storeAt, spliceL, ones, one, eSlice, eSliceArr, bounds, subLo_z, addLo_z, subLo_one, addLo_one, eMake, eAppend, readS, repL, buildCells, chunk, purgeL, purgeLL, purgeH, purge, refs, refsL, List.cons_append, List.nil_append, wrOps, wrAl, wrDops, wrC, junkAt, putAll, putHs, headOf, headK, keepG, List.append_eq, headX, chkP, apartP, apartB, blk, strip, runAl, AL.ho, yld, putPs, lenN, findR, notRound, jumpK, jumpPT, jcode, List.map_cons, List.map_nil, ite_self, reduceIte]
    simp only [true_and, and_true, imp_self, implies_true, decide_eq_true_eq, decide_eq_false_iff_not, Nat.reduceAdd, Nat.reduceLeDiff, Bool.not_not, reduceCtorEq, false_imp_iff, Bool.not_eq_true', Bool.not_eq_false', Bool.false_eq_true, and_self, forall_const, ne_eq, not_false_eq_true, Nat.reduceEqDiff]
    have e : (decide ((n : Int) = 0) || !decide (((dig a (IntKind.i64.wrap ((n : Int) - 1)).toNat : Nat) : Int) = 0)) = decide (n = nl a) := by
      rcases Nat.eq_zero_or_pos n with h0 | h0
      · subst h0
        have := padP_0 (a := a) (sz := 1) (get := get) ⟨rfl, hn, ha, hg⟩
        subst this
        simp [nl_0]
      · rw [w_pred h0 (by omega), Int.toNat_natCast, decide_eq_false (by omega : ¬ (n : Int) = 0), Bool.false_or, Bool.eq_iff_iff, Bool.not_eq_true', decide_eq_false_iff_not, decide_eq_true_eq]
        constructor
        · intro hne
          exact (nl_trim ha (.inr (by omega))).symm
        · rintro rfl
          have := nl_top (a := a) (by rintro rfl; simp [nl_0] at h0)
          omega
    refine ⟨fun hb => ?_, fun h1 h2 => by rw [decide_eq_true h1, decide_eq_false h2]; rfl, ?_⟩
    · simp only [Bool.and_eq_true, decide_eq_true_eq, Bool.not_eq_true', decide_eq_false_iff_not] at hb
      rw [w_pred (by omega) (by omega)]; omega
    · rw [e]
      have e2 : decide ((n : Int) ≤ 512) = decide (n ≤ 512) := by congr 1; exact propext (by omega)
      rw [e2]
      exact ans_bool h
  · exact h.1.elim

def R4 : Env := { ct := fun n => match n with | 89 => some validC | 58 => some orderC | 55 => some ofC | 87 => some divideC | _ => none, fn := fun n => match n with | 86 => some v86 | _ => none, meth := fun _ _ => none }
theorem R4_ct89 : R4.ct 89 = some validC := rfl
theorem R4_ct58 : R4.ct 58 = some orderC := rfl
theorem R4_ct55 : R4.ct 55 = some ofC := rfl
theorem R4_ct87 : R4.ct 87 = some divideC := rfl
theorem R4_ct86 : R4.ct 86 = none := rfl
theorem R4_fn86 : R4.fn 86 = some v86 := rfl
theorem R4_ok : EnvOk Try.prog R4 := by
  refine ⟨fun f c h => ?_, fun f vf h => ?_, fun _ _ => rfl, by kernel_rfl⟩
  · simp only [R4] at h
    split at h
    · cases h; exact ⟨valid_ok, Try.f89, Try.func89, by kernel_rfl, by kernel_rfl⟩
    · cases h; exact ⟨order_ok, Try.f58, Try.func58, by kernel_rfl, by kernel_rfl⟩
    · cases h; exact ⟨of_ok, Try.f55, Try.func55, by kernel_rfl, by kernel_rfl⟩
    · cases h; exact ⟨divide_ok, Try.f87, Try.func87, by kernel_rfl, by kernel_rfl⟩
    · cases h
  · simp only [R4] at h
    split at h
    · cases h; exact ⟨Try.f86, Try.func86, v86_is, Try.f86, Try.func86, by kernel_rfl, by kernel_rfl⟩
    · cases h


theorem proper_ok : properC.ok Try.prog 85 := by
  refine contract Try.func85 v85_is R4_ok 300 properC fun args k h => ?_
  simp only [properC] at h
  split at h
  · rename_i neg t1 z1 n1 s1 g1 t2 z2 n2 s2 g2
    obtain ⟨⟨n, d⟩, ⟨⟨hd, hl1, hl2⟩, rfl, rfl, rfl, rfl, rfl, rfl, rfl, hg1, hg2⟩, h⟩ := h
    dsimp only at hd hl1 hl2 hg1 hg2
    refine ⟨[.agg [.bool (decide (n < 0)), .vs false false (nl (rnum n d)) 1 (fun k => [.int .u32 (dig (rnum n d) k)]), .vs false false (nl (rden n d)) 1 (fun k => [.int .u32 (dig (rden n d) k)])]], by simpa [leL, le] using ⟨hg1, hg2⟩, ?_⟩
    dsimp only [v85, R4_ct89, R4_ct58, R4_ct55, R4_ct86, R4_fn86, v86, validC, orderC, ofC, natS, r_end, r_end1, r_nil, r_op, r_opg, r_runOp, r_op0, r_yld0, r_yld1, r_y, r_rbeg, r_rend, r_rend1, r_rfrm, r_rfrm1, r_range, r_rangeK, r_rangeE, r_draw, r_dnil, r_dop, r_dopg, r_dplq, r_dplh, r_dq, r_dq0, r_dcl1, r_dcl0, r_dct1, r_dct0, r_dgd, r_dgq1, r_dgq0, r_dctG, r_op1, r_eff, r_eff0, r_call, r_call0, r_inl, r_g, r_gq, r_gc, r_effg, r_effg0, r_callg, r_callg0, r_fin, r_pre, r_imp, r_all, r_ex, r_fing, r_preg, r_exg, r_inBlock, r_inLoop, r_frame, r_frame1, r_skip, r_stuck, r_region, r_seq, r_cond, r_cond1, r_block, r_exit, r_exit1, r_exit2, r_ret, r_loop, s_args0, s_args1, s_xt, s_xc, padL, blankL, callee, callArgs, eff, ctOf, getL, setL, S.put, S.upd, unopts, unopt, unoptsO, unoptsB, lazyO, guardOf, gbool, eMov, eNot, eNeg, eConv, eExt, eLenArr, eLen, eLenStr, eEqb, eEqv, allEq, eNil, negIf, eBool2, eCmp, eAri, ari, eBit, eDiv, eSh, eMinMax, foldMin, foldMax, kEq, pure1, cmpB, VO.quiet, resVals, resVal, tupled, popRet, popTo, cond, Option.bind, Option.map, eNew, eBox, asCells, lenH, snocH, eFieldAddr, eField, eLoad, cellsAt, getH, setH, dropL, takeL, mkAgg, lenL, lenS, shift, shiftL, shiftH, viewN, viewL, view, andT, junks, List.append_nil, Nat.beq, eIdxAddr, eIdxArr, idxN_0, idxN_1, idxN_2, idxN_3, eIndex, eStore, storeAt, spliceL, ones, one, eSlice, eSliceArr, bounds, subLo_z, addLo_z, subLo_one, addLo_one, eMake, eAppend, readS, repL, buildCells, chunk, purgeL, purgeLL, purgeH, purge, refs, refsL, List.cons_append, List.nil_append, wrOps, wrAl, wrDops, wrC, junkAt, putAll, putHs, headOf, headK, keepG, List.append_eq, headX, chkP, apartP, apartB, blk, strip, runAl, AL.ho, yld, putPs, lenN, findR, notRound, jumpK, jumpPT, jcode, List.map_cons, List.map_nil, ite_self, reduceIte]
    simp only [true_and, and_true, imp_self, implies_true, decide_eq_true_eq, decide_eq_false_iff_not, Nat.reduceAdd, Nat.reduceLeDiff, Bool.not_not, reduceCtorEq, false_imp_iff, Bool.not_eq_true', Bool.not_eq_false', Bool.false_eq_true, and_self, forall_const, ne_eq, not_false_eq_true, Nat.reduceEqDiff]
    have hq := rden_pos (n := n) hd
    have hq0 := nl_pos.2 hq
    have c1 : decide (nl (rnum n d) ≤ 512) = true := decide_eq_true hl1
    have c2 : decide (nl (rden n d) ≤ 512) = true := decide_eq_true hl2
    have c3 : decide ((nl (rden n d) : Int) = 0) = false := decide_eq_false (by omega)
    refine ⟨rnum n d, padP_nl (by omega), rden n d, fun _ => padP_nl (by omega), fun _ => by decide, rden n d, 1, fun _ => ⟨padP_nl (by omega), padP_nl (by decide)⟩, ?_⟩
    have c4 : (decide ((nl (rnum n d) : Int) = 0) && (decide (n < 0) || !decide (ordN (rden n d) 1 = 0))) = false := by
      by_cases h0 : n = 0
      · subst h0
        rw [rden_0 hd]; simp [ordN]
      · have : nl (rnum n d) ≠ 0 := fun hh => h0 ((rnum_0 hd).1 (nl_eq0.1 hh))
        rw [decide_eq_false (by omega), Bool.false_and]
    simp only [c1, c2, c3, decide_true, decide_false, Bool.and_true, Bool.true_and, Bool.and_false, Bool.false_and, Bool.not_true, Bool.not_false, Bool.or_false, Bool.false_or, Bool.or_true, Bool.true_or, Bool.and_self, Bool.or_self, Bool.false_eq_true, Bool.true_eq_false, false_imp_iff, forall_const, true_and, and_true, implies_true, reduceCtorEq, not_true_eq_false, not_false_eq_true, ite_true, ite_false]
    rw [c4]
    refine ⟨fun h1 h2 => by rw [h1, decide_eq_false h2]; rfl, fun h => by rw [decide_eq_true h], (fun h => by cases h), fun _ => ?_⟩
    refine Loop.keep [] (Nat × Nat × Bool × Bool) (fun x => [(0, .vs false x.2.2.1 (nl x.1) 1 (fun k => [.int .u32 (dig x.1 k)])), (1, .vs false x.2.2.2 (nl x.2.1) 1 (fun k => [.int .u32 (dig x.2.1 k)]))]) (fun _ => []) [] (fun x => Nat.gcd x.1 x.2.1 = Nat.gcd (rnum n d) (rden n d) ∧ nl x.1 ≤ 9999 ∧ nl x.2.1 ≤ 9999) (fun x => x.2.1) ?_ ?_
    · refine ⟨(rnum n d, rden n d, false, false), ⟨rfl, by simp only; omega, by simp only; omega⟩, ?_⟩
      dsimp only [r_end, r_end1, r_nil, r_op, r_opg, r_runOp, r_op0, r_yld0, r_yld1, r_y, r_rbeg, r_rend, r_rend1, r_rfrm, r_rfrm1, r_range, r_rangeK, r_rangeE, r_draw, r_dnil, r_dop, r_dopg, r_dplq, r_dplh, r_dq, r_dq0, r_dcl1, r_dcl0, r_dct1, r_dct0, r_dgd, r_dgq1, r_dgq0, r_dctG, r_op1, r_eff, r_eff0, r_call, r_call0, r_inl, r_g, r_gq, r_gc, r_effg, r_effg0, r_callg, r_callg0, r_fin, r_pre, r_imp, r_all, r_ex, r_fing, r_preg, r_exg, r_inBlock, r_inLoop, r_frame, r_frame1, r_skip, r_stuck, r_region, r_seq, r_cond, r_cond1, r_block, r_exit, r_exit1, r_exit2, r_ret, r_loop, s_args0, s_args1, s_xt, s_xc, padL, blankL, callee, callArgs, eff, ctOf, getL, setL, S.put, S.upd, unopts, unopt, unoptsO, unoptsB, lazyO, guardOf, gbool, eMov, eNot, eNeg, eConv, eExt, eLenArr, eLen, eLenStr, eEqb, eEqv, allEq, eNil, negIf, eBool2, eCmp, eAri, ari, eBit, eDiv, eSh, eMinMax, foldMin, foldMax, kEq, pure1, cmpB, VO.quiet, resVals, resVal, tupled, popRet, popTo, cond, Option.bind, Option.map, eNew, eBox, asCells, lenH, snocH, eFieldAddr, eField, eLoad, cellsAt, getH, setH, dropL, takeL, mkAgg, lenL, lenS, shift, shiftL, shiftH, viewN, viewL, view, andT, junks, List.append_nil, Nat.beq, eIdxAddr, eIdxArr, idxN_0, idxN_1, idxN_2, idxN_3, eIndex, eStore, storeAt, spliceL, ones, one, eSlice, eSliceArr, bounds, subLo_z, addLo_z, subLo_one, addLo_one, eMake, eAppend, readS, repL, buildCells, chunk, purgeL, purgeLL, purgeH, purge, refs, refsL, List.cons_append, List.nil_append, wrOps, wrAl, wrDops, wrC, junkAt, putAll, putHs, headOf, headK, keepG, List.append_eq, headX, chkP, apartP, apartB, blk, strip, runAl, AL.ho, yld, putPs, lenN, findR, notRound, jumpK, jumpPT, jcode, List.map_cons, List.map_nil, ite_self, reduceIte]
      simp only [leS_mk, leL_cons, leL_nil, le_junk, le_int, le_bool, le_nil, leLL_nil, leLL_cons, leH_cons, leH_nil, leH1_box, leH1_own, leH1_gone, le_vs, le_agg, le_tup, le_ptr, le_own, le_xp, le_fn, le_opt, le_val, le_elem, le_nil_own, le_nil_vs, leH_ghost, leL_chunk, leXL_id, bnd_int, bnd_bool, bnd_val, bnd_nil, bnd_junk, bnd_vs, bnd_xp, bnd_agg, bnd_tup, bnd_ptr, bnd_own, bnd_elem, bnd_fn, bnd_iface, bnd_opt, bndL_nil, bndL_cons, lenH_cons, lenH_nil, imp_self, implies_true, true_and, and_true]
      simp
    · rintro ⟨x, y, zx, zy⟩ ⟨hg, hx, hy⟩
      dsimp only at hg hx hy
      dsimp only [R4_ct87, R4_ct58, R4_ct55, divideC, orderC, ofC, natS, r_end, r_end1, r_nil, r_op, r_opg, r_runOp, r_op0, r_yld0, r_yld1, r_y, r_rbeg, r_rend, r_rend1, r_rfrm, r_rfrm1, r_range, r_rangeK, r_rangeE, r_draw, r_dnil, r_dop, r_dopg, r_dplq, r_dplh, r_dq, r_dq0, r_dcl1, r_dcl0, r_dct1, r_dct0, r_dgd, r_dgq1, r_dgq0, r_dctG, r_op1, r_eff, r_eff0, r_call, r_call0, r_inl, r_g, r_gq, r_gc, r_effg, r_effg0, r_callg, r_callg0, r_fin, r_pre, r_imp, r_all, r_ex, r_fing, r_preg, r_exg, r_inBlock, r_inLoop, r_frame, r_frame1, r_skip, r_stuck, r_region, r_seq, r_cond, r_cond1, r_block, r_exit, r_exit1, r_exit2, r_ret, r_loop, s_args0, s_args1, s_xt, s_xc, padL, blankL, callee, callArgs, eff, ctOf, getL, setL, S.put, S.upd, unopts, unopt, unoptsO, unoptsB, lazyO, guardOf, gbool, eMov, eNot, eNeg, eConv, eExt, eLenArr, eLen, eLenStr, eEqb, eEqv, allEq, eNil, negIf, eBool2, eCmp, eAri, ari, eBit, eDiv, eSh, eMinMax, foldMin, foldMax, kEq, pure1, cmpB, VO.quiet, resVals, resVal, tupled, popRet, popTo, cond, Option.bind, Option.map, eNew, eBox, asCells, lenH, snocH, eFieldAddr, eField, eLoad, cellsAt, getH, setH, dropL, takeL, mkAgg, lenL, lenS, shift, shiftL, shiftH, viewN, viewL, view, andT, junks, List.append_nil, Nat.beq, eIdxAddr, eIdxArr, idxN_0, idxN_1, idxN_2, idxN_3, eIndex, eStore, storeAt, spliceL, ones, one, eSlice, eSliceArr, bounds, subLo_z, addLo_z, subLo_one, addLo_one, eMake, eAppend, readS, repL, buildCells, chunk, purgeL, purgeLL, purgeH, purge, refs, refsL, List.cons_append, List.nil_append, wrOps, wrAl, wrDops, wrC, junkAt, putAll, putHs, headOf, headK, keepG, List.append_eq, headX, chkP, apartP, apartB, blk, strip, runAl, AL.ho, yld, putPs, lenN, findR, notRound, jumpK, jumpPT, jcode, List.map_cons, List.map_nil, ite_self, reduceIte]
      simp only [true_and, and_true, imp_self, implies_true, decide_eq_true_eq, decide_eq_false_iff_not, Nat.reduceAdd, Nat.reduceLeDiff, Bool.not_not, reduceCtorEq, false_imp_iff, Bool.not_eq_true', Bool.not_eq_false', Bool.false_eq_true, and_self, forall_const, ne_eq, not_false_eq_true, Nat.reduceEqDiff]
      refine ⟨fun hpos => ⟨x, y, ⟨padP_nl (by omega), rfl, padP_nl (by omega), nl_pos.1 (by omega), hy, hx⟩, fun zr => ⟨by decide, by decide, (y, x % y, zy, zr), ⟨?_, hy, ?_⟩, ?_, ?_⟩⟩, fun hge => ?_⟩
      · have hy0 : 0 < y := nl_pos.1 (by omega)
        show Nat.gcd y (x % y) = _
        rw [← hg, Nat.gcd_comm x y, Nat.gcd_rec y x, Nat.gcd_comm]
      · exact Nat.le_trans (nl_mono (Nat.mod_le _ _)) hx
      · exact Nat.mod_lt _ (nl_pos.1 (by omega))
      · simp only [leS_mk, leL_cons, leL_nil, le_junk, le_int, le_bool, le_nil, leLL_nil, leLL_cons, leH_cons, leH_nil, leH1_box, leH1_own, leH1_gone, le_vs, le_agg, le_tup, le_ptr, le_own, le_xp, le_fn, le_opt, le_val, le_elem, le_nil_own, le_nil_vs, leH_ghost, leL_chunk, leXL_id, bnd_int, bnd_bool, bnd_val, bnd_nil, bnd_junk, bnd_vs, bnd_xp, bnd_agg, bnd_tup, bnd_ptr, bnd_own, bnd_elem, bnd_fn, bnd_iface, bnd_opt, bndL_nil, bndL_cons, lenH_cons, lenH_nil, imp_self, implies_true, true_and, and_true]
        simp
      · obtain rfl : y = 0 := nl_eq0.1 (by omega)
        rw [Nat.gcd_zero_right, r_coprime hd] at hg
        subst hg
        refine ⟨⟨by decide, by decide⟩, 1, 1, ⟨padP_nl (by decide), padP_nl (by decide)⟩, ans_bool ?_⟩
        exact h
  · exact h.1.elim
def R5 : Env := { ct := fun n => match n with | 89 => some validC | 58 => some orderC | 55 => some ofC | 87 => some divideC | 85 => some properC | _ => none, fn := fun n => match n with | 86 => some v86 | _ => none, meth := fun _ _ => none }
theorem R5_ct89 : R5.ct 89 = some validC := rfl
theorem R5_ct58 : R5.ct 58 = some orderC := rfl
theorem R5_ct55 : R5.ct 55 = some ofC := rfl
theorem R5_ct87 : R5.ct 87 = some divideC := rfl
theorem R5_ct85 : R5.ct 85 = some properC := rfl
theorem R5_ct86 : R5.ct 86 = none := rfl
theorem R5_fn86 : R5.fn 86 = some v86 := rfl
theorem R5_ok : EnvOk Try.prog R5 := by
  refine ⟨fun f c h => ?_, fun f vf h => ?_, fun _ _ => rfl, by kernel_rfl⟩
  · simp only [R5] at h
    split at h
    · cases h; exact ⟨valid_ok, Try.f89, Try.func89, by kernel_rfl, by kernel_rfl⟩
    · cases h; exact ⟨order_ok, Try.f58, Try.func58, by kernel_rfl, by kernel_rfl⟩
    · cases h; exact ⟨of_ok, Try.f55, Try.func55, by kernel_rfl, by kernel_rfl⟩
    · cases h; exact ⟨divide_ok, Try.f87, Try.func87, by kernel_rfl, by kernel_rfl⟩
    · cases h; exact ⟨proper_ok, Try.f85, Try.func85, by kernel_rfl, by kernel_rfl⟩
    · cases h
  · simp only [R5] at h
    split at h
    · cases h; exact ⟨Try.f86, Try.func86, v86_is, Try.f86, Try.func86, by kernel_rfl, by kernel_rfl⟩
    · cases h


theorem badq_ok : badqC.ok Try.prog 69 := by
  refine contract Try.func69 v69_is R5_ok 300 badqC fun args k h => ?_
  simp only [badqC] at h
  split at h
  · rename_i tt z n sz get
    obtain ⟨l, ⟨⟨rfl, rfl, hg⟩, hmax, hok⟩, h⟩ := h
    refine ⟨[.vs tt z l.length 3 (fun k => encF false (l.getD k default))], by simpa [leL, le] using hg, ?_⟩
    dsimp only [v69, r_end, r_end1, r_nil, r_op, r_opg, r_runOp, r_op0, r_yld0, r_yld1, r_y, r_rbeg, r_rend, r_rend1, r_rfrm, r_rfrm1, r_range, r_rangeK, r_rangeE, r_draw, r_dnil, r_dop, r_dopg, r_dplq, r_dplh, r_dq, r_dq0, r_dcl1, r_dcl0, r_dct1, r_dct0, r_dgd, r_dgq1, r_dgq0, r_dctG, r_op1, r_eff, r_eff0, r_call, r_call0, r_inl, r_g, r_gq, r_gc, r_effg, r_effg0, r_callg, r_callg0, r_fin, r_pre, r_imp, r_all, r_ex, r_fing, r_preg, r_exg, r_inBlock, r_inLoop, r_frame, r_frame1, r_skip, r_stuck, r_region, r_seq, r_cond, r_cond1, r_block, r_exit, r_exit1, r_exit2, r_ret, r_loop, s_args0, s_args1, s_xt, s_xc, padL, blankL, callee, callArgs, eff, ctOf, getL, setL, S.put, S.upd, unopts, unopt, unoptsO, unoptsB, lazyO, guardOf, gbool, eMov, eNot, eNeg, eConv, eExt, eLenArr, eLen, eLenStr, eEqb, eEqv, allEq, eNil, negIf, eBool2, eCmp, eAri, ari, eBit, eDiv, eSh, eMinMax, foldMin, foldMax, kEq, pure1, cmpB, VO.quiet, resVals, resVal, tupled, popRet, popTo, cond, Option.bind, Option.map, eNew, eBox, asCells, lenH, snocH, eFieldAddr, eField, eLoad, cellsAt, getH, setH, dropL, takeL, mkAgg, lenL, lenS, shift, shiftL, shiftH, viewN, viewL, view, andT, junks, List.append_nil, Nat.beq, eIdxAddr, eIdxArr, idxN_0, idxN_1, idxN_2, idxN_3, eIndex, eStore, storeAt, spliceL, ones, one, eSlice, eSliceArr, bounds, subLo_z, addLo_z, subLo_one, addLo_one, eMake, eAppend, readS, repL, buildCells, chunk, purgeL, purgeLL, purgeH, purge, refs, refsL, List.cons_append, List.nil_append, wrOps, wrAl, wrDops, wrC, junkAt, putAll, putHs, headOf, headK, keepG, List.append_eq, headX, chkP, apartP, apartB, blk, strip, runAl, AL.ho, yld, putPs, lenN, findR, notRound, jumpK, jumpPT, jcode, List.map_cons, List.map_nil, ite_self, reduceIte]
    simp only [true_and, and_true, imp_self, implies_true, decide_eq_true_eq, decide_eq_false_iff_not, Nat.reduceAdd, Nat.reduceLeDiff, Bool.not_not, reduceCtorEq, false_imp_iff, Bool.not_eq_true', Bool.not_eq_false', Bool.false_eq_true, and_self, forall_const, ne_eq, not_false_eq_true, Nat.reduceEqDiff]
    refine Loop.keep [0, 2] Nat (fun i => [(3, .int .i64 i)]) (fun _ => []) [] (fun i => i ≤ l.length) (fun i => l.length - i) ?_ ?_
    · refine ⟨0, by omega, ?_⟩
      dsimp only [r_end, r_end1, r_nil, r_op, r_opg, r_runOp, r_op0, r_yld0, r_yld1, r_y, r_rbeg, r_rend, r_rend1, r_rfrm, r_rfrm1, r_range, r_rangeK, r_rangeE, r_draw, r_dnil, r_dop, r_dopg, r_dplq, r_dplh, r_dq, r_dq0, r_dcl1, r_dcl0, r_dct1, r_dct0, r_dgd, r_dgq1, r_dgq0, r_dctG, r_op1, r_eff, r_eff0, r_call, r_call0, r_inl, r_g, r_gq, r_gc, r_effg, r_effg0, r_callg, r_callg0, r_fin, r_pre, r_imp, r_all, r_ex, r_fing, r_preg, r_exg, r_inBlock, r_inLoop, r_frame, r_frame1, r_skip, r_stuck, r_region, r_seq, r_cond, r_cond1, r_block, r_exit, r_exit1, r_exit2, r_ret, r_loop, s_args0, s_args1, s_xt, s_xc, padL, blankL, callee, callArgs, eff, ctOf, getL, setL, S.put, S.upd, unopts, unopt, unoptsO, unoptsB, lazyO, guardOf, gbool, eMov, eNot, eNeg, eConv, eExt, eLenArr, eLen, eLenStr, eEqb, eEqv, allEq, eNil, negIf, eBool2, eCmp, eAri, ari, eBit, eDiv, eSh, eMinMax, foldMin, foldMax, kEq, pure1, cmpB, VO.quiet, resVals, resVal, tupled, popRet, popTo, cond, Option.bind, Option.map, eNew, eBox, asCells, lenH, snocH, eFieldAddr, eField, eLoad, cellsAt, getH, setH, dropL, takeL, mkAgg, lenL, lenS, shift, shiftL, shiftH, viewN, viewL, view, andT, junks, List.append_nil, Nat.beq, eIdxAddr, eIdxArr, idxN_0, idxN_1, idxN_2, idxN_3, eIndex, eStore, storeAt, spliceL, ones, one, eSlice, eSliceArr, bounds, subLo_z, addLo_z, subLo_one, addLo_one, eMake, eAppend, readS, repL, buildCells, chunk, purgeL, purgeLL, purgeH, purge, refs, refsL, List.cons_append, List.nil_append, wrOps, wrAl, wrDops, wrC, junkAt, putAll, putHs, headOf, headK, keepG, List.append_eq, headX, chkP, apartP, apartB, blk, strip, runAl, AL.ho, yld, putPs, lenN, findR, notRound, jumpK, jumpPT, jcode, List.map_cons, List.map_nil, ite_self, reduceIte]
      simp only [leS_mk, leL_cons, leL_nil, le_junk, le_int, le_bool, le_nil, leLL_nil, leLL_cons, leH_cons, leH_nil, leH1_box, leH1_own, leH1_gone, le_vs, le_agg, le_tup, le_ptr, le_own, le_xp, le_fn, le_opt, le_val, le_elem, le_nil_own, le_nil_vs, leH_ghost, leL_chunk, leXL_id, bnd_int, bnd_bool, bnd_val, bnd_nil, bnd_junk, bnd_vs, bnd_xp, bnd_agg, bnd_tup, bnd_ptr, bnd_own, bnd_elem, bnd_fn, bnd_iface, bnd_opt, bndL_nil, bndL_cons, lenH_cons, lenH_nil, imp_self, implies_true, true_and, and_true]
      simp
    · rintro i hi
      dsimp only [encF, natV, Int.toNat_natCast, r_end, r_end1, r_nil, r_op, r_opg, r_runOp, r_op0, r_yld0, r_yld1, r_y, r_rbeg, r_rend, r_rend1, r_rfrm, r_rfrm1, r_range, r_rangeK, r_rangeE, r_draw, r_dnil, r_dop, r_dopg, r_dplq, r_dplh, r_dq, r_dq0, r_dcl1, r_dcl0, r_dct1, r_dct0, r_dgd, r_dgq1, r_dgq0, r_dctG, r_op1, r_eff, r_eff0, r_call, r_call0, r_inl, r_g, r_gq, r_gc, r_effg, r_effg0, r_callg, r_callg0, r_fin, r_pre, r_imp, r_all, r_ex, r_fing, r_preg, r_exg, r_inBlock, r_inLoop, r_frame, r_frame1, r_skip, r_stuck, r_region, r_seq, r_cond, r_cond1, r_block, r_exit, r_exit1, r_exit2, r_ret, r_loop, s_args0, s_args1, s_xt, s_xc, padL, blankL, callee, callArgs, eff, ctOf, getL, setL, S.put, S.upd, unopts, unopt, unoptsO, unoptsB, lazyO, guardOf, gbool, eMov, eNot, eNeg, eConv, eExt, eLenArr, eLen, eLenStr, eEqb, eEqv, allEq, eNil, negIf, eBool2, eCmp, eAri, ari, eBit, eDiv, eSh, eMinMax, foldMin, foldMax, kEq, pure1, cmpB, VO.quiet, resVals, resVal, tupled, popRet, popTo, cond, Option.bind, Option.map, eNew, eBox, asCells, lenH, snocH, eFieldAddr, eField, eLoad, cellsAt, getH, setH, dropL, takeL, mkAgg, lenL, lenS, shift, shiftL, shiftH, viewN, viewL, view, andT, junks, List.append_nil, Nat.beq, eIdxAddr, eIdxArr, idxN_0, idxN_1, idxN_2, idxN_3, eIndex, eStore, storeAt, spliceL, ones, one, eSlice, eSliceArr, bounds, subLo_z, addLo_z, subLo_one, addLo_one, eMake, eAppend, readS, repL, buildCells, chunk, purgeL, purgeLL, purgeH, purge, refs, refsL, List.cons_append, List.nil_append, wrOps, wrAl, wrDops, wrC, junkAt, putAll, putHs, headOf, headK, keepG, List.append_eq, headX, chkP, apartP, apartB, blk, strip, runAl, AL.ho, yld, putPs, lenN, findR, notRound, jumpK, jumpPT, jcode, List.map_cons, List.map_nil, ite_self, reduceIte]
      simp only [true_and, and_true, imp_self, implies_true, decide_eq_true_eq, decide_eq_false_iff_not, Nat.reduceAdd, Nat.reduceLeDiff, Bool.not_not, reduceCtorEq, false_imp_iff, Bool.not_eq_true', Bool.not_eq_false', Bool.false_eq_true, and_self, forall_const, ne_eq, not_false_eq_true, Nat.reduceEqDiff]
      refine ⟨fun hlt => ?_, fun hge => ?_⟩
      · obtain ⟨hd, hl1, hl2⟩ := hok _ (getD_mem (by omega : i < l.length))
        refine ⟨⟨by omega, by omega⟩, fun _ => ⟨by omega, by omega⟩, fun hb => ?_, fun _ => ⟨i + 1, by omega, by omega, ?_⟩⟩
        · rw [decide_eq_false (by omega), decide_eq_false (by omega)] at hb
          cases hb
        · rw [w_succ (n := l.length) (by omega) (by omega)]
          simp only [leS_mk, leL_cons, leL_nil, le_junk, le_int, le_bool, le_nil, leLL_nil, leLL_cons, leH_cons, leH_nil, leH1_box, leH1_own, leH1_gone, le_vs, le_agg, le_tup, le_ptr, le_own, le_xp, le_fn, le_opt, le_val, le_elem, le_nil_own, le_nil_vs, leH_ghost, leL_chunk, leXL_id, bnd_int, bnd_bool, bnd_val, bnd_nil, bnd_junk, bnd_vs, bnd_xp, bnd_agg, bnd_tup, bnd_ptr, bnd_own, bnd_elem, bnd_fn, bnd_iface, bnd_opt, bndL_nil, bndL_cons, lenH_cons, lenH_nil, imp_self, implies_true, true_and, and_true] <;> simp
      · refine Loop.keep [0, 3] Nat (fun i => [(4, .int .i64 i)]) (fun _ => []) [] (fun i => i ≤ l.length) (fun i => l.length - i) ?_ ?_
        · refine ⟨0, by omega, ?_⟩
          dsimp only [r_end, r_end1, r_nil, r_op, r_opg, r_runOp, r_op0, r_yld0, r_yld1, r_y, r_rbeg, r_rend, r_rend1, r_rfrm, r_rfrm1, r_range, r_rangeK, r_rangeE, r_draw, r_dnil, r_dop, r_dopg, r_dplq, r_dplh, r_dq, r_dq0, r_dcl1, r_dcl0, r_dct1, r_dct0, r_dgd, r_dgq1, r_dgq0, r_dctG, r_op1, r_eff, r_eff0, r_call, r_call0, r_inl, r_g, r_gq, r_gc, r_effg, r_effg0, r_callg, r_callg0, r_fin, r_pre, r_imp, r_all, r_ex, r_fing, r_preg, r_exg, r_inBlock, r_inLoop, r_frame, r_frame1, r_skip, r_stuck, r_region, r_seq, r_cond, r_cond1, r_block, r_exit, r_exit1, r_exit2, r_ret, r_loop, s_args0, s_args1, s_xt, s_xc, padL, blankL, callee, callArgs, eff, ctOf, getL, setL, S.put, S.upd, unopts, unopt, unoptsO, unoptsB, lazyO, guardOf, gbool, eMov, eNot, eNeg, eConv, eExt, eLenArr, eLen, eLenStr, eEqb, eEqv, allEq, eNil, negIf, eBool2, eCmp, eAri, ari, eBit, eDiv, eSh, eMinMax, foldMin, foldMax, kEq, pure1, cmpB, VO.quiet, resVals, resVal, tupled, popRet, popTo, cond, Option.bind, Option.map, eNew, eBox, asCells, lenH, snocH, eFieldAddr, eField, eLoad, cellsAt, getH, setH, dropL, takeL, mkAgg, lenL, lenS, shift, shiftL, shiftH, viewN, viewL, view, andT, junks, List.append_nil, Nat.beq, eIdxAddr, eIdxArr, idxN_0, idxN_1, idxN_2, idxN_3, eIndex, eStore, storeAt, spliceL, ones, one, eSlice, eSliceArr, bounds, subLo_z, addLo_z, subLo_one, addLo_one, eMake, eAppend, readS, repL, buildCells, chunk, purgeL, purgeLL, purgeH, purge, refs, refsL, List.cons_append, List.nil_append, wrOps, wrAl, wrDops, wrC, junkAt, putAll, putHs, headOf, headK, keepG, List.append_eq, headX, chkP, apartP, apartB, blk, strip, runAl, AL.ho, yld, putPs, lenN, findR, notRound, jumpK, jumpPT, jcode, List.map_cons, List.map_nil, ite_self, reduceIte]
          simp only [leS_mk, leL_cons, leL_nil, le_junk, le_int, le_bool, le_nil, leLL_nil, leLL_cons, leH_cons, leH_nil, leH1_box, leH1_own, leH1_gone, le_vs, le_agg, le_tup, le_ptr, le_own, le_xp, le_fn, le_opt, le_val, le_elem, le_nil_own, le_nil_vs, leH_ghost, leL_chunk, leXL_id, bnd_int, bnd_bool, bnd_val, bnd_nil, bnd_junk, bnd_vs, bnd_xp, bnd_agg, bnd_tup, bnd_ptr, bnd_own, bnd_elem, bnd_fn, bnd_iface, bnd_opt, bndL_nil, bndL_cons, lenH_cons, lenH_nil, imp_self, implies_true, true_and, and_true] <;> simp
        · rintro i hi
          dsimp only [R5_ct85, properC, encF, natV, Int.toNat_natCast, r_end, r_end1, r_nil, r_op, r_opg, r_runOp, r_op0, r_yld0, r_yld1, r_y, r_rbeg, r_rend, r_rend1, r_rfrm, r_rfrm1, r_range, r_rangeK, r_rangeE, r_draw, r_dnil, r_dop, r_dopg, r_dplq, r_dplh, r_dq, r_dq0, r_dcl1, r_dcl0, r_dct1, r_dct0, r_dgd, r_dgq1, r_dgq0, r_dctG, r_op1, r_eff, r_eff0, r_call, r_call0, r_inl, r_g, r_gq, r_gc, r_effg, r_effg0, r_callg, r_callg0, r_fin, r_pre, r_imp, r_all, r_ex, r_fing, r_preg, r_exg, r_inBlock, r_inLoop, r_frame, r_frame1, r_skip, r_stuck, r_region, r_seq, r_cond, r_cond1, r_block, r_exit, r_exit1, r_exit2, r_ret, r_loop, s_args0, s_args1, s_xt, s_xc, padL, blankL, callee, callArgs, eff, ctOf, getL, setL, S.put, S.upd, unopts, unopt, unoptsO, unoptsB, lazyO, guardOf, gbool, eMov, eNot, eNeg, eConv, eExt, eLenArr, eLen, eLenStr, eEqb, eEqv, allEq, eNil, negIf, eBool2, eCmp, eAri, ari, eBit, eDiv, eSh, eMinMax, foldMin, foldMax, kEq, pure1, cmpB, VO.quiet, resVals, resVal, tupled, popRet, popTo, cond, Option.bind, Option.map, eNew, eBox, asCells, lenH, snocH, eFieldAddr, eField, eLoad, cellsAt, getH, setH, dropL, takeL, mkAgg, lenL, lenS, shift, shiftL, shiftH, viewN, viewL, view, andT, junks, List.append_nil, Nat.beq, eIdxAddr, eIdxArr, idxN_0, idxN_1, idxN_2, idxN_3, eIndex, eStore, storeAt, spliceL, ones, one, eSlice, eSliceArr, bounds, subLo_z, addLo_z, subLo_one, addLo_one, eMake, eAppend, readS, repL, buildCells, chunk, purgeL, purgeLL, purgeH, purge, refs, refsL, List.cons_append, List.nil_append, wrOps, wrAl, wrDops, wrC, junkAt, putAll, putHs, headOf, headK, keepG, List.append_eq, headX, chkP, apartP, apartB, blk, strip, runAl, AL.ho, yld, putPs, lenN, findR, notRound, jumpK, jumpPT, jcode, List.map_cons, List.map_nil, ite_self, reduceIte]
          simp only [true_and, and_true, imp_self, implies_true, decide_eq_true_eq, decide_eq_false_iff_not, Nat.reduceAdd, Nat.reduceLeDiff, Bool.not_not, reduceCtorEq, false_imp_iff, Bool.not_eq_true', Bool.not_eq_false', Bool.false_eq_true, and_self, forall_const, ne_eq, not_false_eq_true, Nat.reduceEqDiff]
          refine ⟨fun hlt => ?_, fun hge => ans_int h⟩
          refine ⟨⟨by omega, by omega⟩, l.getD i default, fracP_self (hok _ (getD_mem (by omega))), ⟨i + 1, by omega, by omega, ?_⟩⟩
          rw [w_succ (n := l.length) (by omega) (by omega)]
          simp only [leS_mk, leL_cons, leL_nil, le_junk, le_int, le_bool, le_nil, leLL_nil, leLL_cons, leH_cons, leH_nil, leH1_box, leH1_own, leH1_gone, le_vs, le_agg, le_tup, le_ptr, le_own, le_xp, le_fn, le_opt, le_val, le_elem, le_nil_own, le_nil_vs, leH_ghost, leL_chunk, leXL_id, bnd_int, bnd_bool, bnd_val, bnd_nil, bnd_junk, bnd_vs, bnd_xp, bnd_agg, bnd_tup, bnd_ptr, bnd_own, bnd_elem, bnd_fn, bnd_iface, bnd_opt, bndL_nil, bndL_cons, lenH_cons, lenH_nil, imp_self, implies_true, true_and, and_true] <;> simp
  · exact h.1.elim

theorem lowest_ok : lowestC.ok Try.prog 70 := by
  refine contract Try.func70 v70_is R5_ok 300 lowestC fun args k h => ?_
  simp only [lowestC] at h
  split at h
  · rename_i neg t1 z1 n sz get t2 z2 m sz' get'
    obtain ⟨a, b, ⟨⟨rfl, hn, ha, hg⟩, rfl, ⟨rfl, hm, hb, hg'⟩, rfl, hb0, hn9, hm9, hok⟩, h⟩ := h
    refine ⟨[.bool neg, .vs t1 z1 (nl a) 1 (fun k => [.int .u32 (dig a k)]), .vs t2 z2 (nl b) 1 (fun k => [.int .u32 (dig b k)])], ⟨rfl, by simpa [le] using hg, by simpa [le] using hg', trivial⟩, ?_⟩
    dsimp only [v70, R5_ct86, R5_fn86, v86, r_end, r_end1, r_nil, r_op, r_opg, r_runOp, r_op0, r_yld0, r_yld1, r_y, r_rbeg, r_rend, r_rend1, r_rfrm, r_rfrm1, r_range, r_rangeK, r_rangeE, r_draw, r_dnil, r_dop, r_dopg, r_dplq, r_dplh, r_dq, r_dq0, r_dcl1, r_dcl0, r_dct1, r_dct0, r_dgd, r_dgq1, r_dgq0, r_dctG, r_op1, r_eff, r_eff0, r_call, r_call0, r_inl, r_g, r_gq, r_gc, r_effg, r_effg0, r_callg, r_callg0, r_fin, r_pre, r_imp, r_all, r_ex, r_fing, r_preg, r_exg, r_inBlock, r_inLoop, r_frame, r_frame1, r_skip, r_stuck, r_region, r_seq, r_cond, r_cond1, r_block, r_exit, r_exit1, r_exit2, r_ret, r_loop, s_args0, s_args1, s_xt, s_xc, padL, blankL, callee, callArgs, eff, ctOf, getL, setL, S.put, S.upd, unopts, unopt, unoptsO, unoptsB, lazyO, guardOf, gbool, eMov, eNot, eNeg, eConv, eExt, eLenArr, eLen, eLenStr, eEqb, eEqv, allEq, eNil, negIf, eBool2, eCmp, eAri, ari, eBit, eDiv, eSh, eMinMax, foldMin, foldMax, kEq, pure1, cmpB, VO.quiet, resVals, resVal, tupled, popRet, popTo, cond, Option.bind, Option.map, eNew, eBox, asCells, lenH, snocH, eFieldAddr, eField, eLoad, cellsAt, getH, setH, dropL, takeL, mkAgg, lenL, lenS, shift, shiftL, shiftH, viewN, viewL, view, andT, junks, List.append_nil, Nat.beq, eIdxAddr, eIdxArr, idxN_0, idxN_1, idxN_2, idxN_3, eIndex, eStore, storeAt, spliceL, ones, one, eSlice, eSliceArr, bounds, subLo_z, addLo_z, subLo_one, addLo_one, eMake, eAppend, readS, repL, buildCells, chunk, purgeL, purgeLL, purgeH, purge, refs, refsL, List.cons_append, List.nil_append, wrOps, wrAl, wrDops, wrC, junkAt, putAll, putHs, headOf, headK, keepG, List.append_eq, headX, chkP, apartP, apartB, blk, strip, runAl, AL.ho, yld, putPs, lenN, findR, notRound, jumpK, jumpPT, jcode, List.map_cons, List.map_nil, ite_self, reduceIte]
    simp only [true_and, and_true, imp_self, implies_true, decide_eq_true_eq, decide_eq_false_iff_not, Nat.reduceAdd, Nat.reduceLeDiff, Bool.not_not, reduceCtorEq, false_imp_iff, Bool.not_eq_true', Bool.not_eq_false', Bool.false_eq_true, and_self, forall_const, ne_eq, not_false_eq_true, Nat.reduceEqDiff]
    refine Loop.keep [] (Nat × Nat × Bool × Bool) (fun x => [(0, .vs false x.2.2.1 (nl x.1) 1 (fun k => [.int .u32 (dig x.1 k)])), (1, .vs false x.2.2.2 (nl x.2.1) 1 (fun k => [.int .u32 (dig x.2.1 k)]))]) (fun _ => []) [] (fun x => Nat.gcd x.1 x.2.1 = Nat.gcd a b ∧ nl x.1 ≤ 9999 ∧ nl x.2.1 ≤ 9999) (fun x => x.2.1) ?_ ?_
    · refine ⟨(a, b, z1, z2), ⟨rfl, hn9, hm9⟩, ?_⟩
      dsimp only [r_end, r_end1, r_nil, r_op, r_opg, r_runOp, r_op0, r_yld0, r_yld1, r_y, r_rbeg, r_rend, r_rend1, r_rfrm, r_rfrm1, r_range, r_rangeK, r_rangeE, r_draw, r_dnil, r_dop, r_dopg, r_dplq, r_dplh, r_dq, r_dq0, r_dcl1, r_dcl0, r_dct1, r_dct0, r_dgd, r_dgq1, r_dgq0, r_dctG, r_op1, r_eff, r_eff0, r_call, r_call0, r_inl, r_g, r_gq, r_gc, r_effg, r_effg0, r_callg, r_callg0, r_fin, r_pre, r_imp, r_all, r_ex, r_fing, r_preg, r_exg, r_inBlock, r_inLoop, r_frame, r_frame1, r_skip, r_stuck, r_region, r_seq, r_cond, r_cond1, r_block, r_exit, r_exit1, r_exit2, r_ret, r_loop, s_args0, s_args1, s_xt, s_xc, padL, blankL, callee, callArgs, eff, ctOf, getL, setL, S.put, S.upd, unopts, unopt, unoptsO, unoptsB, lazyO, guardOf, gbool, eMov, eNot, eNeg, eConv, eExt, eLenArr, eLen, eLenStr, eEqb, eEqv, allEq, eNil, negIf, eBool2, eCmp, eAri, ari, eBit, eDiv, eSh, eMinMax, foldMin, foldMax, kEq, pure1, cmpB, VO.quiet, resVals, resVal, tupled, popRet, popTo, cond, Option.bind, Option.map, eNew, eBox, asCells, lenH, snocH, eFieldAddr, eField, eLoad, cellsAt, getH, setH, dropL, takeL, mkAgg, lenL, lenS, shift, shiftL, shiftH, viewN, viewL, view, andT, junks, List.append_nil, Nat.beq, eIdxAddr, eIdxArr, idxN_0, idxN_1, idxN_2, idxN_3, eIndex, eStore, storeAt, spliceL, ones, one, eSlice, eSliceArr, bounds, subLo_z, addLo_z, subLo_one, addLo_one, eMake, eAppend, readS, repL, buildCells, chunk, purgeL, purgeLL, purgeH, purge, refs, refsL, List.cons_append, List.nil_append, wrOps, wrAl, wrDops, wrC, junkAt, putAll, putHs, headOf, headK, keepG, List.append_eq, headX, chkP, apartP, apartB, blk, strip, runAl, AL.ho, yld, putPs, lenN, findR, notRound, jumpK, jumpPT, jcode, List.map_cons, List.map_nil, ite_self, reduceIte]
      simp only [leS_mk, leL_cons, leL_nil, le_junk, le_int, le_bool, le_nil, leLL_nil, leLL_cons, leH_cons, leH_nil, leH1_box, leH1_own, leH1_gone, le_vs, le_agg, le_tup, le_ptr, le_own, le_xp, le_fn, le_opt, le_val, le_elem, le_nil_own, le_nil_vs, leH_ghost, leL_chunk, leXL_id, bnd_int, bnd_bool, bnd_val, bnd_nil, bnd_junk, bnd_vs, bnd_xp, bnd_agg, bnd_tup, bnd_ptr, bnd_own, bnd_elem, bnd_fn, bnd_iface, bnd_opt, bndL_nil, bndL_cons, lenH_cons, lenH_nil, imp_self, implies_true, true_and, and_true]
      simp
    · rintro ⟨x, y, zx, zy⟩ ⟨hg, hx, hy⟩
      dsimp only at hg hx hy
      dsimp only [R5_ct87, divideC, natS, r_end, r_end1, r_nil, r_op, r_opg, r_runOp, r_op0, r_yld0, r_yld1, r_y, r_rbeg, r_rend, r_rend1, r_rfrm, r_rfrm1, r_range, r_rangeK, r_rangeE, r_draw, r_dnil, r_dop, r_dopg, r_dplq, r_dplh, r_dq, r_dq0, r_dcl1, r_dcl0, r_dct1, r_dct0, r_dgd, r_dgq1, r_dgq0, r_dctG, r_op1, r_eff, r_eff0, r_call, r_call0, r_inl, r_g, r_gq, r_gc, r_effg, r_effg0, r_callg, r_callg0, r_fin, r_pre, r_imp, r_all, r_ex, r_fing, r_preg, r_exg, r_inBlock, r_inLoop, r_frame, r_frame1, r_skip, r_stuck, r_region, r_seq, r_cond, r_cond1, r_block, r_exit, r_exit1, r_exit2, r_ret, r_loop, s_args0, s_args1, s_xt, s_xc, padL, blankL, callee, callArgs, eff, ctOf, getL, setL, S.put, S.upd, unopts, unopt, unoptsO, unoptsB, lazyO, guardOf, gbool, eMov, eNot, eNeg, eConv, eExt, eLenArr, eLen, eLenStr, eEqb, eEqv, allEq, eNil, negIf, eBool2, eCmp, eAri, ari, eBit, eDiv, eSh, eMinMax, foldMin, foldMax, kEq, pure1, cmpB, VO.quiet, resVals, resVal, tupled, popRet, popTo, cond, Option.bind, Option.map, eNew, eBox, asCells, lenH, snocH, eFieldAddr, eField, eLoad, cellsAt, getH, setH, dropL, takeL, mkAgg, lenL, lenS, shift, shiftL, shiftH, viewN, viewL, view, andT, junks, List.append_nil, Nat.beq, eIdxAddr, eIdxArr, idxN_0, idxN_1, idxN_2, idxN_3, eIndex, eStore, storeAt, spliceL, ones, one, eSlice, eSliceArr, bounds, subLo_z, addLo_z, subLo_one, addLo_one, eMake, eAppend, readS, repL, buildCells, chunk, purgeL, purgeLL, purgeH, purge, refs, refsL, List.cons_append, List.nil_append, wrOps, wrAl, wrDops, wrC, junkAt, putAll, putHs, headOf, headK, keepG, List.append_eq, headX, chkP, apartP, apartB, blk, strip, runAl, AL.ho, yld, putPs, lenN, findR, notRound, jumpK, jumpPT, jcode, List.map_cons, List.map_nil, ite_self, reduceIte]
      simp only [true_and, and_true, imp_self, implies_true, decide_eq_true_eq, decide_eq_false_iff_not, Nat.reduceAdd, Nat.reduceLeDiff, Bool.not_not, reduceCtorEq, false_imp_iff, Bool.not_eq_true', Bool.not_eq_false', Bool.false_eq_true, and_self, forall_const, ne_eq, not_false_eq_true, Nat.reduceEqDiff]
      refine ⟨fun hpos => ⟨x, y, ⟨padP_nl (by omega), rfl, padP_nl (by omega), nl_pos.1 (by omega), hy, hx⟩, fun zr => ⟨by decide, by decide, (y, x % y, zy, zr), ⟨?_, hy, ?_⟩, ?_, ?_⟩⟩, fun hge => ?_⟩
      · have hy0 : 0 < y := nl_pos.1 (by omega)
        show Nat.gcd y (x % y) = _
        rw [← hg, Nat.gcd_comm x y, Nat.gcd_rec y x, Nat.gcd_comm]
      · exact Nat.le_trans (nl_mono (Nat.mod_le _ _)) hx
      · exact Nat.mod_lt _ (nl_pos.1 (by omega))
      · simp only [leS_mk, leL_cons, leL_nil, le_junk, le_int, le_bool, le_nil, leLL_nil, leLL_cons, leH_cons, leH_nil, leH1_box, leH1_own, leH1_gone, le_vs, le_agg, le_tup, le_ptr, le_own, le_xp, le_fn, le_opt, le_val, le_elem, le_nil_own, le_nil_vs, leH_ghost, leL_chunk, leXL_id, bnd_int, bnd_bool, bnd_val, bnd_nil, bnd_junk, bnd_vs, bnd_xp, bnd_agg, bnd_tup, bnd_ptr, bnd_own, bnd_elem, bnd_fn, bnd_iface, bnd_opt, bndL_nil, bndL_cons, lenH_cons, lenH_nil, imp_self, implies_true, true_and, and_true]
        simp
      · obtain rfl : y = 0 := nl_eq0.1 (by omega)
        rw [Nat.gcd_zero_right] at hg
        have hg0 : 0 < x := by rw [hg]; exact Nat.gcd_pos_of_pos_right _ hb0
        refine ⟨a, x, ⟨padP_nl (by omega), rfl, padP_nl (by omega), hg0, hx, hn9⟩, ?_⟩
        refine ⟨by decide, by decide, b, x, ⟨padP_nl (by omega), rfl, padP_nl (by omega), hg0, hx, hm9⟩, by decide, by decide, ?_⟩
        obtain ⟨_, hl1, hl2⟩ := hok
        have e1 : a / x = rnum (nsg neg a) b := by unfold rnum fg; rw [nsg_abs, hg]
        have e2 : b / x = rden (nsg neg a) b := by unfold rden fg; rw [nsg_abs, hg]
        dsimp only at hl1 hl2
        rw [e1, e2]
        refine ⟨fun hb => ?_, fun _ => ?_⟩
        · rw [decide_eq_false (by omega), decide_eq_false (by omega)] at hb
          cases hb
        · have e3 : (neg && decide (0 < (nl (rnum (nsg neg a) b) : Int))) = decide (nsg neg a < 0) := by
            rw [nsg_neg]
            congr 2
            apply propext
            have h1 := rnum_0 (n := nsg neg a) hb0
            have h2 := nl_eq0 (a := rnum (nsg neg a) b)
            have h3 : nsg neg a = 0 ↔ a = 0 := by unfold nsg; split <;> omega
            omega
          rw [e3]
          exact ans_le (show k _ [] from h) (le_self (.tup [.agg (encF true (nsg neg a, b)), .int .i64 0]) ⟨⟨trivial, trivial, trivial, trivial⟩, trivial, trivial⟩) (fun _ => by simp [encF, natV, freshS, freshL])
  · exact h.1.elim
end Go.Proofs.Ytdognchniaojoaa
