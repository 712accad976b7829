/- Tuning: the law of the fewest moves, walked. -/
import Derived.Test.YteioilioobichaaMgX1d
import Derived.Test.YteioilioobichaaRows
/- Tuning: the law of the fewest moves, walked. -/
set_option linter.all false
namespace Go.Proofs.Yteioilioobichaa
open Go Go.Vx
set_option maxRecDepth 100000
set_option maxHeartbeats 4000000

def v5 : VF := { ntmps := 129, res := [.tmp 2], body :=
 (.seq (.region [u1 1 .box [.tm 0],
 u1 2 .mov [.cn (.bool false)]])
 (.seq (.seq (.region [u1 9 (.fieldAddr 0) [.tm 1],
 u1 10 (.load true 1) [.tm 9],
 u1 11 (.fieldAddr 1) [.tm 1],
 u1 12 (.load false 1) [.tm 11],
 u1 13 (.call 7) [.tm 10, .tm 12],
 u1 14 .mov [.tm 13],
 u2 15 14 false (.fieldAddr 3) [.tm 1],
 u2 16 14 false (.load false 1) [.tm 15],
 u2 17 14 false .len [.tm 16],
 u2 18 14 false (.cmp .gtr) [.tm 17, .cn (.int .i64 100)],
 u1 19 .or [.tm 14, .tm 18]])
 (.cond (.tm 19) (.seq (.region [u1 20 (.call 8) [],
 u1 2 .mov [.tm 20]])
 .ret)
  .skip))
 (.seq (.region [u1 22 (.fieldAddr 0) [.tm 1],
 u1 23 (.load true 1) [.tm 22],
 u1 24 (.fieldAddr 1) [.tm 1],
 u1 25 (.load false 1) [.tm 24],
 u1 26 (.fieldAddr 2) [.tm 1],
 u1 27 (.load false 1) [.tm 26],
 u1 28 (.call 16) [.tm 23, .tm 25, .tm 27],
 u1 21 .mov [.tm 28],
 u1 29 (.ext 0) [.tm 21],
 u1 30 (.ext 1) [.tm 21],
 u1 31 (.ext 2) [.tm 21],
 u1 3 .mov [.tm 29],
 u1 4 .mov [.tm 30],
 u1 5 .mov [.tm 31]])
 (.seq (.seq (.region [u1 32 .mov [.tm 5],
 u1 33 (.cmp .neq) [.tm 32, .cn (.int .i64 0)]])
 (.cond (.tm 33) (.seq (.region [u1 34 .mov [.tm 3],
 u1 35 .len [.tm 34],
 u1 36 (.cmp .eql) [.tm 35, .cn (.int .i64 0)],
 u1 37 .mov [.tm 36],
 u2 38 37 true .mov [.tm 4],
 u2 39 37 true (.cmp .eql) [.tm 38, .cn (.int .i64 0)],
 u1 40 .and [.tm 37, .tm 39],
 u1 41 .mov [.tm 40],
 u2 42 41 true (.call 8) [],
 u1 43 .and [.tm 41, .tm 42],
 u1 2 .mov [.tm 43]])
 .ret)
  .skip))
 (.seq (.region [u1 45 (.fieldAddr 0) [.tm 1],
 u1 46 (.load true 1) [.tm 45],
 u1 47 (.fieldAddr 1) [.tm 1],
 u1 48 (.load false 1) [.tm 47],
 u1 49 (.fieldAddr 2) [.tm 1],
 u1 50 (.load false 1) [.tm 49],
 u1 51 .mov [.tm 3],
 u1 52 (.call 9) [.tm 46, .tm 48, .tm 50, .tm 51],
 u1 44 .mov [.tm 52],
 u1 53 (.ext 0) [.tm 44],
 u1 54 (.ext 1) [.tm 44],
 u1 6 .mov [.tm 53],
 u1 5 .mov [.tm 54]])
 (.seq (.seq (.region [u1 55 .mov [.tm 5],
 u1 56 (.cmp .neq) [.tm 55, .cn (.int .i64 0)],
 u1 57 .mov [.tm 56],
 u2 58 57 false .mov [.tm 6],
 u2 59 57 false .mov [.tm 4],
 u2 60 57 false (.cmp .neq) [.tm 58, .tm 59],
 u1 61 .or [.tm 57, .tm 60],
 u1 62 .mov [.tm 61],
 u2 63 62 false (.fieldAddr 1) [.tm 1],
 u2 64 62 false (.load false 1) [.tm 63],
 u2 65 62 false .mov [.tm 3],
 u2 66 62 false (.call 21) [.tm 64, .tm 65],
 u2 67 62 false .not [.tm 66],
 u1 68 .or [.tm 62, .tm 67]])
 (.cond (.tm 68) (.seq (.region [u1 2 .mov [.cn (.bool false)]])
 .ret)
  .skip))
 (.seq (.region [u1 70 (.fieldAddr 0) [.tm 1],
 u1 71 (.load true 1) [.tm 70],
 u1 72 (.fieldAddr 1) [.tm 1],
 u1 73 (.load false 1) [.tm 72],
 u1 74 (.fieldAddr 2) [.tm 1],
 u1 75 (.load false 1) [.tm 74],
 u1 76 (.fieldAddr 3) [.tm 1],
 u1 77 (.load false 1) [.tm 76],
 u1 78 (.call 9) [.tm 71, .tm 73, .tm 75, .tm 77],
 u1 69 .mov [.tm 78],
 u1 79 (.ext 0) [.tm 69],
 u1 80 (.ext 1) [.tm 69],
 u1 7 .mov [.tm 79],
 u1 5 .mov [.tm 80]])
 (.seq (.seq (.region [u1 81 .mov [.tm 5],
 u1 82 (.cmp .neq) [.tm 81, .cn (.int .i64 0)]])
 (.cond (.tm 82) (.seq (.region [u1 83 (.call 8) [],
 u1 2 .mov [.tm 83]])
 .ret)
  .skip))
 (.seq (.seq (.region [u1 84 .mov [.tm 7],
 u1 85 .mov [.tm 4],
 u1 86 (.cmp .eql) [.tm 84, .tm 85]])
 (.cond (.tm 86) (.seq (.region [u1 8 .mov [.cn (.int .i64 0)]])
 (.block 0 (.loop (.seq (.seq (.region [u1 87 .mov [.tm 8],
 u1 88 .mov [.tm 3],
 u1 89 .len [.tm 88],
 u1 90 (.cmp .lss) [.tm 87, .tm 89],
 u1 91 .mov [.tm 90],
 u2 92 91 true .mov [.tm 8],
 u2 93 91 true (.fieldAddr 3) [.tm 1],
 u2 94 91 true (.load false 1) [.tm 93],
 u2 95 91 true .len [.tm 94],
 u2 96 91 true (.cmp .lss) [.tm 92, .tm 95],
 u1 97 .and [.tm 91, .tm 96]])
 (.cond (.tm 97) .skip
  (.exit 0)))
 (.seq (.block 1 (.seq (.draw [] [w1 100 .mov [.tm 3],
 w1 101 .mov [.tm 8],
 w1 102 (.idxAddr 1) [.tm 100, .tm 101],
 w1 103 (.load false 1) [.tm 102],
 w1 104 (.fieldAddr 3) [.tm 1],
 w1 105 (.load false 1) [.tm 104],
 w1 106 .mov [.tm 8],
 w1 107 (.idxAddr 1) [.tm 105, .tm 106],
 w1 108 (.load false 1) [.tm 107],
 w1 109 (.cmp .neq) [.tm 103, .tm 108]])
 (.cond (.tm 109) (.seq (.draw [] [w1 110 .mov [.tm 3],
 w1 111 .mov [.tm 8],
 w1 112 (.idxAddr 1) [.tm 110, .tm 111],
 w1 113 (.load false 1) [.tm 112],
 w1 114 (.fieldAddr 3) [.tm 1],
 w1 115 (.load false 1) [.tm 114],
 w1 116 .mov [.tm 8],
 w1 117 (.idxAddr 1) [.tm 115, .tm 116],
 w1 118 (.load false 1) [.tm 117],
 w1 119 (.cmp .lss) [.tm 113, .tm 118],
 w1 120 .mov [.tm 119],
 ⟨u2 121 120 true (.call 8) [], []⟩,
 w1 122 .and [.tm 120, .tm 121],
 w1 2 .mov [.tm 122]])
 .ret)
  .skip)))
 (.region [u1 98 .mov [.tm 8],
 u1 99 (.ari .add) [.tm 98, .cn (.int .i64 1)],
 u1 8 .mov [.tm 99]]))))))
  .skip))
 (.seq (.region [u1 123 .mov [.tm 7],
 u1 124 .mov [.tm 4],
 u1 125 (.cmp .geq) [.tm 123, .tm 124],
 u1 126 .mov [.tm 125],
 u2 127 126 true (.call 8) [],
 u1 128 .and [.tm 126, .tm 127],
 u1 2 .mov [.tm 128]])
 .ret)))))))))) }
theorem v5_is : vfunc Try.prog Try.f5 = some v5 := by kernel_rfl

def TP0 : Env := { ct := fun n => match n with | 7 => some farC | 8 => some trueC | 9 => some MovC | 16 => some PlanC | 21 => some ordC | _ => none, fn := fun _ => none, meth := fun _ _ => none }
theorem TP0_ct7 : TP0.ct 7 = some farC := rfl
theorem TP0_ct8 : TP0.ct 8 = some trueC := rfl
theorem TP0_ct9 : TP0.ct 9 = some MovC := rfl
theorem TP0_ct16 : TP0.ct 16 = some PlanC := rfl
theorem TP0_ct21 : TP0.ct 21 = some ordC := rfl
theorem TP0_ok : EnvOk Try.prog TP0 := by
  refine ⟨fun f c h => ?_, fun f vf h => ?_, (fun _ _ _ h => by cases h), by kernel_rfl⟩
  · simp only [TP0] at h
    split at h
    · cases h; exact ⟨far_ok, Try.f7, Try.func7, by kernel_rfl, by kernel_rfl⟩
    · cases h; exact ⟨shown_ok, Try.f8, Try.func8, by kernel_rfl, by kernel_rfl⟩
    · cases h; exact ⟨Mov_ok, Try.f9, Try.func9, by kernel_rfl, by kernel_rfl⟩
    · cases h; exact ⟨Plan_ok, Try.f16, Try.func16, by kernel_rfl, by kernel_rfl⟩
    · cases h; exact ⟨rord_ok, Try.f21, Try.func21, by kernel_rfl, by kernel_rfl⟩
    · cases h
  · cases h

theorem lawFewest : (lawC lawC0).ok Try.prog 5 := by
  refine contract Try.func5 v5_is TP0_ok 800 (lawC lawC0) fun args k h => ?_
  obtain ⟨ha, hk⟩ := h
  obtain ⟨_, _, rfl, h1, e1⟩ := okPL_cons_inv ha
  obtain ⟨cs, rfl, hcs⟩ := okP_agg_inv h1
  cases okPL_nil_inv e1
  obtain ⟨zh, zl, zo, h0, l, p, o, r, hle⟩ := se_of hcs
  have hk : k (.bool true) [] := hk
  refine ⟨[.agg (encSe zh zl zo h0 l p o r)], ⟨leXL_le _ _ hle (by simp only [encSe, bndL_cons, bndL_nil, bnd_vs, bnd_int, and_self]), trivial⟩, ?_⟩
  dsimp only [v5, encSe, TP0_ct7, TP0_ct8, TP0_ct9, TP0_ct16, TP0_ct21, farC, trueC, MovC, PlanC, ordC, go_sem, Option.bind, Option.map, List.append_nil, Nat.beq, List.cons_append, List.nil_append, List.append_eq, List.map_cons, List.map_nil, ite_self, reduceIte]
  simp only [true_and, and_true, imp_self, implies_true, decide_eq_true_eq, decide_eq_false_iff_not, Nat.reduceAdd, Nat.reduceLeDiff, Bool.not_not, reduceCtorEq, false_imp_iff, Bool.not_eq_true', Bool.not_eq_false', Bool.false_eq_true, and_self, forall_const, ne_eq, not_false_eq_true, Nat.reduceEqDiff]
  refine ⟨h0, l, ⟨vH _ _ _, vW _ _ _⟩, fun _ => ans_bool hk, fun hb => ?_⟩
  rw [Bool.or_eq_false_iff, decide_eq_false_iff_not] at hb
  have kB := far_no hb.1
  have hol : o.length ≤ 1000000000000 := by omega
  refine ⟨h0, l, ⟨vH _ _ _, vW _ _ _, kB⟩, fun z => ⟨by decide, by decide, by decide, fun hn => ?_, fun hn => ?_⟩⟩
  · obtain ⟨e1, e2⟩ := rest_err hn
    simp only [e1, e2]
    exact ans_bool (by simpa using hk)
  obtain ⟨hc, p0, p1⟩ := plan_facts hn
  have hplan := plan_yes hc p0 p1
  obtain ⟨q1, q2, q3⟩ := path_ord (h := h0) (l := l) (p := p) hc
  obtain ⟨c1, c2, c3, c4, c5⟩ := chk_facts hc
  have hmv := plan_mov hc p0 p1
  simp only [hplan]
  have hpl : (pathF h0 l 0 p).length ≤ 1000000000000 := by omega
  refine ⟨h0, l, pathF h0 l 0 p, ⟨vH _ _ _, vW _ _ _, vO _ _ _, kB, hpl⟩, by decide, by decide, ?_⟩
  simp only [hmv]
  refine ⟨l, pathF h0 l 0 p, fun _ => ⟨vW _ _ _, vO _ _ _, c2, hpl, kB.2.2, aft_of_good c3⟩, fun hb => (by simp [q1] at hb), fun _ => ⟨h0, l, o, ⟨vH _ _ _, vW _ _ _, vO _ _ _, kB, hol⟩, by decide, by decide, fun _ => ans_bool hk, fun hm => ?_⟩⟩
  obtain ⟨lo1, lo2⟩ := mov_low hm
  refine ⟨fun he => ?_, fun hne => ?_⟩
  · have hlex := lo2 he
    refine Loop.keep [1, 0, 0, 0, 2] Nat (fun i => [(8, .int .i64 i)]) (fun _ => []) [] (fun i => i ≤ (pathF h0 l 0 p).length ∧ i ≤ o.length ∧ ∀ j, j < i → (pathF h0 l 0 p).getD j default = o.getD j default) (fun i => (pathF h0 l 0 p).length - i) ?_ ?_
    · refine ⟨0, ⟨Nat.zero_le _, Nat.zero_le _, fun j hj => by omega⟩, ?_⟩
      dsimp only [go_sem, Option.bind, Option.map, List.append_nil, Nat.beq, List.cons_append, List.nil_append, List.append_eq, List.map_cons, List.map_nil, ite_self, reduceIte]
      simp only [leS_mk, leL_cons, leL_nil, le_junk, le_int, le_bool, le_nil, leLL_nil, leLL_cons, leH_cons, leH_nil, leH1_box, leH1_own, leH1_gone, le_vs, le_agg, le_tup, le_ptr, le_own, le_xp, le_fn, le_opt, le_val, le_elem, le_nil_own, le_nil_vs, leH_ghost, leL_chunk, leXL_id, bnd_int, bnd_bool, bnd_val, bnd_nil, bnd_junk, bnd_vs, bnd_xp, bnd_agg, bnd_tup, bnd_ptr, bnd_own, bnd_elem, bnd_fn, bnd_iface, bnd_opt, bnd_row, bnd_rcell, bnd_imap, bnd_smp, le_row, le_rcell, le_imap, le_smp, leH1_smap, bndL_nil, bndL_cons, lenH_cons, lenH_nil, imp_self, implies_true, true_and, and_true]
      simp
    · rintro i ⟨hi, hi2, hia⟩
      dsimp only [TP0_ct8, trueC, enc1, go_sem, Option.bind, Option.map, List.append_nil, Nat.beq, List.cons_append, List.nil_append, List.append_eq, List.map_cons, List.map_nil, ite_self, reduceIte]
      simp only [true_and, and_true, imp_self, implies_true, decide_eq_true_eq, decide_eq_false_iff_not, Nat.reduceAdd, Nat.reduceLeDiff, Bool.not_not, reduceCtorEq, false_imp_iff, Bool.not_eq_true', Bool.not_eq_false', Bool.false_eq_true, and_self, forall_const, ne_eq, not_false_eq_true, Nat.reduceEqDiff, Int.toNat_natCast]
      refine ⟨fun hc => ?_, fun hc => ?_⟩
      · rw [Bool.and_eq_true, decide_eq_true_eq, decide_eq_true_eq] at hc
        refine ⟨⟨by omega, hc.1⟩, ⟨by omega, hc.2⟩, fun hn => ?_, fun he => ?_⟩
        · have hlt := lex_get _ _ hlex i (by omega) (by omega) hia hn
          refine ⟨⟨by omega, hc.1⟩, ⟨by omega, hc.2⟩, ?_⟩
          rw [decide_eq_true hlt]
          exact ans_bool hk
        · refine ⟨i + 1, ⟨by omega, by omega, lt_succ_all hia he⟩, by omega, ?_⟩
          simp only [leS_mk, leL_cons, leL_nil, le_junk, le_int, le_bool, le_nil, leLL_nil, leLL_cons, leH_cons, leH_nil, leH1_box, leH1_own, leH1_gone, le_vs, le_agg, le_tup, le_ptr, le_own, le_xp, le_fn, le_opt, le_val, le_elem, le_nil_own, le_nil_vs, leH_ghost, leL_chunk, leXL_id, bnd_int, bnd_bool, bnd_val, bnd_nil, bnd_junk, bnd_vs, bnd_xp, bnd_agg, bnd_tup, bnd_ptr, bnd_own, bnd_elem, bnd_fn, bnd_iface, bnd_opt, bnd_row, bnd_rcell, bnd_imap, bnd_smp, le_row, le_rcell, le_imap, le_smp, leH1_smap, bndL_nil, bndL_cons, lenH_cons, lenH_nil, imp_self, implies_true, true_and, and_true]
          exact ⟨by omega, w_succ (by omega : i < (pathF h0 l 0 p).length) (by omega)⟩
      · rw [decide_eq_true lo1]
        exact ans_bool hk
  · rw [decide_eq_true lo1]
    exact ans_bool hk
end Go.Proofs.Yteioilioobichaa

/- Tuning, in plain Lean: when some works are done; with a work less to wait for. -/
/- Tuning, in plain Lean: when some works are done; with a work less to wait for. -/
set_option linter.all false
namespace Go.Proofs.Yteioilioobichaa
open Go Go.Vx

/-! ### One less to wait for -/

structure Less (l l' : List Wk) : Prop where
  len : l'.length = l.length
  nm : ∀ j, (l'.getD j default).nm = (l.getD j default).nm
  pl : ∀ j, (l'.getD j default).pl = (l.getD j default).pl
  mi : ∀ j, (l'.getD j default).mi = (l.getD j default).mi
  af : ∀ j, (l'.getD j default).af.v = (l.getD j default).af.v ∨ (l'.getD j default).af.v = (l.getD j default).af.v.tail
end Go.Proofs.Yteioilioobichaa

/- Tuning: the law of what is left, walked. -/
/- Tuning: the law of what is left, walked. -/
set_option linter.all false
namespace Go.Proofs.Yteioilioobichaa
open Go Go.Vx
set_option maxRecDepth 100000
set_option maxHeartbeats 4000000

theorem subLo_eq {n i : Nat} : subLo n i = n - i := by
  cases i <;> simp [subLo]
theorem addLo_eq {k i : Nat} : addLo i k = i + k := by
  cases i <;> simp [addLo]
end Go.Proofs.Yteioilioobichaa

/- Laws, as they are given, without a condition. -/
/- Laws, as they are given, without a condition. -/
set_option linter.all false
namespace Go.Proofs.Yteioilioobichaa
open Go Go.Vx Go.RowKit
set_option maxRecDepth 100000

theorem ownX1 : ownKnob Try.prog.godebug = none := by kernel_rfl
theorem laidX1 : laidOutB Try.prog = true := by kernel_rfl

theorem tuningFewest_lifted (os : Os) (started : os.Started) (H : Type) (enc : TypeId × Value → H) :
    ReturnsInHanded {} Try.checked os 5 .any (Rows.tuningFewestSpec.pre6 enc Try.prog Try.f5 Rows.tuningFewestRow.domain false) (Rows.tuningFewestSpec.post enc Try.prog Try.f5 false true false false) :=
  law_lifted (C := Try.checked) (tb := 4) ownX1 started (by kernel_rfl) Try.func5 laidX1
    (ChangeSpec.witness6 (enc := enc) (C := Try.checked) false ⟨#[], #[.agg #[.slice none 0 0, .slice none 0 0, .int .i64 0, .slice none 0 0, .int .i64 0]], []⟩ 8 (by kernel_rfl) (by kernel_rfl) (by kernel_rfl) (by kernel_rfl))
    (by kernel_rfl) (by kernel_rfl) (by kernel_rfl) (by kernel_rfl) rfl (fun ds h => match ds, h with | [_], _ => ⟨rfl, rfl, rfl⟩) lawFewest

theorem tuningFewest_holds : Rows.TuningFewestSaid :=
  OpenClaim.holds_of_wide 5 Try.f5 rfl rfl rfl rfl rfl rfl rfl ⟨rfl, rfl, rfl, rfl, rfl⟩ rfl rfl rfl rfl rfl (by kernel_rfl) Try.func5 (by kernel_rfl)
    (of_decide_eq_true (by kernel_rfl)) (by unfold Func.isWrapper; first | (rw [if_pos (by decide +kernel)]; kernel_rfl) | (rw [if_neg (by decide +kernel)]; exact ⟨rfl, rfl⟩))
    (fun os started H enc _ => tuningFewest_lifted os started H enc)

end Go.Proofs.Yteioilioobichaa

