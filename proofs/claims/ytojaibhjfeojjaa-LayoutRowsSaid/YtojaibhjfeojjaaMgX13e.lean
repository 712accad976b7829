/- Layouts, walked: the reference's Rows; the law of rows. -/
import Derived.Test.YtojaibhjfeojjaaMgX13d
import Derived.Test.YtojaibhjfeojjaaRows
/- Layouts, walked: the reference's Rows; the law of rows. -/
set_option linter.all false
namespace Go.Proofs.Ytojaibhjfeojjaa
open Go Go.Vx
set_option maxRecDepth 100000
set_option maxHeartbeats 4000000

def v12 : VF := { ntmps := 110, res := [.tmp 4, .tmp 5], body :=
 (.seq (.region [u1 2 .box [.tm 0],
 u1 4 .mov [.cn .nil],
 u1 5 .mov [.cn (.int .i64 0)]])
 (.seq (.seq (.region [u1 15 (.fieldAddr 5) [.tm 2],
 u1 16 (.load false 1) [.tm 15],
 u1 17 .len [.tm 16],
 u1 18 (.cmp .gtr) [.tm 17, .cn (.int .i64 8)],
 u1 19 .mov [.tm 18],
 u2 20 19 false .mov [.tm 1],
 u2 21 19 false .len [.tm 20],
 u2 22 19 false (.cmp .gtr) [.tm 21, .cn (.int .i64 200)],
 u1 23 .or [.tm 19, .tm 22]])
 (.cond (.tm 23) (.seq (.region [u1 4 .mov [.cn .nil],
 u1 5 .mov [.cn (.int .i64 3)]])
 .ret)
  .skip))
 (.seq (.region [u1 24 (.load true 6) [.tm 2],
 u1 25 (.call 39) [.tm 24],
 u1 6 .mov [.tm 25]])
 (.seq (.seq (.region [u1 7 .mov [.cn (.int .i64 0)]])
 (.block 0 (.loop (.seq (.seq (.region [u1 26 .mov [.tm 7],
 u1 27 .mov [.tm 1],
 u1 28 .len [.tm 27],
 u1 29 (.cmp .lss) [.tm 26, .tm 28]])
 (.cond (.tm 29) .skip
  (.exit 0)))
 (.seq (.block 1 (.draw [] [w1 32 .mov [.tm 6],
 w1 33 .mov [.tm 32],
 ⟨u2 34 33 true .mov [.tm 1], []⟩,
 ⟨u2 35 33 true .mov [.tm 7], []⟩,
 ⟨u2 36 33 true (.idxAddr 2) [.tm 34, .tm 35], []⟩,
 ⟨u2 37 33 true (.fieldAddr 0) [.tm 36], []⟩,
 ⟨u2 38 33 true (.load false 1) [.tm 37], []⟩,
 ⟨u2 39 33 true .mov [.tm 1], []⟩,
 ⟨u2 40 33 true .mov [.tm 7], []⟩,
 ⟨u2 41 33 true (.idxAddr 2) [.tm 39, .tm 40], []⟩,
 ⟨u2 42 33 true (.fieldAddr 1) [.tm 41], []⟩,
 ⟨u2 43 33 true (.load false 1) [.tm 42], []⟩,
 ⟨u2 44 33 true (.call 40) [.tm 38, .tm 43], []⟩,
 w1 45 .and [.tm 33, .tm 44],
 w1 6 .mov [.tm 45]]))
 (.region [u1 30 .mov [.tm 7],
 u1 31 (.ari .add) [.tm 30, .cn (.int .i64 1)],
 u1 7 .mov [.tm 31]]))))))
 (.seq (.seq (.region [u1 46 .mov [.tm 6],
 u1 47 .not [.tm 46]])
 (.cond (.tm 47) (.seq (.region [u1 4 .mov [.cn .nil],
 u1 5 .mov [.cn (.int .i64 2)]])
 .ret)
  .skip))
 (.seq (.region [u1 48 .mov [.tm 1],
 u1 49 .len [.tm 48],
 u1 50 (.call 41) [.tm 49],
 u1 8 .mov [.tm 50]])
 (.seq (.region [u1 51 (.buildSlice 1 0 [(.int .i64 0)] []) [],
 u1 9 .mov [.tm 51],
 u1 10 .mov [.cn (.int .i64 0)],
 u1 11 .mov [.cn (.bool false)]])
 (.seq (.seq (.region [u1 12 .mov [.cn (.int .i64 0)]])
 (.block 2 (.loop (.seq (.seq (.region [u1 52 .mov [.tm 12],
 u1 53 .mov [.tm 8],
 u1 54 .len [.tm 53],
 u1 55 (.cmp .lss) [.tm 52, .tm 54]])
 (.cond (.tm 55) .skip
  (.exit 2)))
 (.seq (.block 3 (.seq (.draw [] [w1 59 (.load true 6) [.tm 2],
 w1 60 .mov [.tm 1],
 w1 61 .mov [.tm 8],
 w1 62 .mov [.tm 12],
 w1 63 (.idxAddr 1) [.tm 61, .tm 62],
 w1 64 (.load false 1) [.tm 63],
 w1 65 (.call 24) [.tm 59, .tm 60, .tm 64],
 w1 58 .mov [.tm 65],
 w1 66 (.ext 0) [.tm 58],
 w1 67 (.ext 1) [.tm 58],
 w1 13 .mov [.tm 66],
 w1 14 .mov [.tm 67]])
 (.seq (.region [u1 68 .mov [.tm 14],
 u1 69 .mov [.tm 68],
 u2 70 69 true .mov [.tm 13],
 u2 71 69 true (.fieldAddr 1) [.tm 2],
 u2 72 69 true (.load false 1) [.tm 71],
 u2 73 69 true (.cmp .leq) [.tm 70, .tm 72],
 u1 74 .and [.tm 69, .tm 73],
 u1 75 .mov [.tm 74],
 u2 76 75 true .mov [.tm 11],
 u2 77 75 true .not [.tm 76],
 u2 78 75 true .mov [.tm 77],
 u2 79 78 false .mov [.tm 13],
 u2 80 78 false .mov [.tm 10],
 u2 81 78 false (.cmp .lss) [.tm 79, .tm 80],
 u2 82 75 true .or [.tm 78, .tm 81],
 u2 83 75 true .mov [.tm 82],
 u2 84 83 false .mov [.tm 13],
 u2 85 83 false .mov [.tm 10],
 u2 86 83 false (.cmp .eql) [.tm 84, .tm 85],
 u2 87 83 false .mov [.tm 86],
 u2 88 87 true .mov [.tm 8],
 u2 89 87 true .mov [.tm 12],
 u2 90 87 true (.idxAddr 1) [.tm 88, .tm 89],
 u2 91 87 true (.load false 1) [.tm 90],
 u2 92 87 true .len [.tm 91],
 u2 93 87 true .mov [.tm 9],
 u2 94 87 true .len [.tm 93],
 u2 95 87 true (.cmp .lss) [.tm 92, .tm 94],
 u2 96 83 false .and [.tm 87, .tm 95],
 u2 97 75 true .or [.tm 83, .tm 96],
 u1 98 .and [.tm 75, .tm 97]])
 (.cond (.tm 98) (.region [u1 99 .mov [.tm 8],
 u1 100 .mov [.tm 12],
 u1 101 (.idxAddr 1) [.tm 99, .tm 100],
 u1 102 (.load false 1) [.tm 101],
 u1 103 .mov [.tm 13],
 u1 9 .mov [.tm 102],
 u1 10 .mov [.tm 103],
 u1 11 .mov [.cn (.bool true)]])
  .skip))))
 (.region [u1 56 .mov [.tm 12],
 u1 57 (.ari .add) [.tm 56, .cn (.int .i64 1)],
 u1 12 .mov [.tm 57]]))))))
 (.seq (.seq (.region [u1 104 .mov [.tm 11],
 u1 105 .not [.tm 104]])
 (.cond (.tm 105) (.seq (.region [u1 4 .mov [.cn .nil],
 u1 5 .mov [.cn (.int .i64 4)]])
 .ret)
  .skip))
 (.seq (.region [u1 106 (.load true 6) [.tm 2],
 u1 107 .mov [.tm 1],
 u1 108 .mov [.tm 9],
 u1 109 (.call 25) [.tm 106, .tm 107, .tm 108],
 u1 4 .mov [.tm 109],
 u1 5 .mov [.cn (.int .i64 0)]])
 .ret)))))))))) }
theorem v12_is : vfunc Try.prog Try.f12 = some v12 := by kernel_rfl
def v3 : VF := { ntmps := 52, res := [.tmp 4], body :=
 (.seq (.region [u1 2 .box [.tm 0],
 u1 4 .mov [.cn (.bool false)]])
 (.seq (.seq (.region [u1 9 .mov [.tm 1],
 u1 10 .len [.tm 9],
 u1 11 (.cmp .gtr) [.tm 10, .cn (.int .i64 10)],
 u1 12 .mov [.tm 11],
 u2 13 12 true .mov [.tm 1],
 u2 14 12 true .len [.tm 13],
 u2 15 12 true (.cmp .leq) [.tm 14, .cn (.int .i64 200)],
 u1 16 .and [.tm 12, .tm 15],
 u1 17 .mov [.tm 16],
 u2 18 17 false .mov [.tm 1],
 u2 19 17 false .len [.tm 18],
 u2 20 17 false (.cmp .gtr) [.tm 19, .cn (.int .i64 210)],
 u1 21 .or [.tm 17, .tm 20],
 u1 22 .mov [.tm 21],
 u2 23 22 false (.fieldAddr 5) [.tm 2],
 u2 24 22 false (.load false 1) [.tm 23],
 u2 25 22 false .len [.tm 24],
 u2 26 22 false (.cmp .gtr) [.tm 25, .cn (.int .i64 20)],
 u1 27 .or [.tm 22, .tm 26]])
 (.cond (.tm 27) (.seq (.region [u1 28 (.call 10) [],
 u1 4 .mov [.tm 28]])
 .ret)
  .skip))
 (.seq (.region [u1 30 (.load true 6) [.tm 2],
 u1 31 .mov [.tm 1],
 u1 32 (.call 11) [.tm 30, .tm 31],
 u1 29 .mov [.tm 32],
 u1 33 (.ext 0) [.tm 29],
 u1 34 (.ext 1) [.tm 29],
 u1 5 .mov [.tm 33],
 u1 6 .mov [.tm 34]])
 (.seq (.region [u1 36 (.load true 6) [.tm 2],
 u1 37 .mov [.tm 1],
 u1 38 (.call 12) [.tm 36, .tm 37],
 u1 35 .mov [.tm 38],
 u1 39 (.ext 0) [.tm 35],
 u1 40 (.ext 1) [.tm 35],
 u1 7 .mov [.tm 39],
 u1 8 .mov [.tm 40]])
 (.seq (.region [u1 41 .mov [.tm 5],
 u1 42 .mov [.tm 7],
 u1 43 (.call 13) [.tm 41, .tm 42],
 u1 44 .mov [.tm 43],
 u2 45 44 true .mov [.tm 6],
 u2 46 44 true .mov [.tm 8],
 u2 47 44 true (.cmp .eql) [.tm 45, .tm 46],
 u1 48 .and [.tm 44, .tm 47],
 u1 49 .mov [.tm 48],
 u2 50 49 true (.call 10) [],
 u1 51 .and [.tm 49, .tm 50],
 u1 4 .mov [.tm 51]])
 .ret))))) }
theorem v3_is : vfunc Try.prog Try.f3 = some v3 := by kernel_rfl


def rrwC : Ctr := { alias := false, of := fun l => match l with
  | [.agg [.int .i64 w, .int .i64 d, .int .i64 c, .int .i64 a, .int .i64 s, .vs _ _ n sz get], .vs _ _ n' sz' get'] => .ex Brd fun b => .ex (List Ft) fun l => .pre (brdP b w d c a s n sz get ∧ lsP 2 encT n' sz' get' l ∧ (l.length ≤ 10 ∨ 200 < l.length) ∧ l.length ≤ 1000000000000 ∧ b.wk.length ≤ 1000000000000) (.fin (.tup [lsS (rowsR b l).1, .int .i64 (rowsR b l).2]) [])
  | _ => noC }
def rtG (b : Bool) (l : List Ft) (i : Nat) : Bool := b && (l.take i).all fun f => !(footF f.1 f.2)
theorem rtG_succ {b : Bool} {l : List Ft} {i : Nat} (h : i < l.length) : rtG b l (i + 1) = (rtG b l i && !(footF (l.getD i default).1 (l.getD i default).2)) := by
  unfold rtG
  rw [take_succ_eq h, List.all_append]
  simp [Bool.and_assoc]
theorem rt_all {b : Bool} {l : List Ft} : rtG b l l.length = (b && !(l.any fun f => footF f.1 f.2)) := by
  unfold rtG
  rw [List.take_length]
  congr 1
  rw [Bool.eq_iff_iff, List.all_eq_true, Bool.not_eq_true', List.any_eq_false]
  simp
theorem cast_ls {x : List Nat} : lsP 1 enc1 x.length 1 (fun k => encI (x.getD k default)) (castL x) := by
  refine ⟨rfl, (cast_len x).symm, fun k hk => ?_⟩
  rw [cast_get x k hk]
  exact leXL_self _
def RW0 : Env := { ct := fun n => match n with | 39 => some rbdC | 40 => some rftC | 41 => some divC | 24 => some dpC | 25 => some plcC | _ => none, fn := fun _ => none, meth := fun _ _ => none }
theorem RW0_ct39 : RW0.ct 39 = some rbdC := rfl
theorem RW0_ct40 : RW0.ct 40 = some rftC := rfl
theorem RW0_ct41 : RW0.ct 41 = some divC := rfl
theorem RW0_ct24 : RW0.ct 24 = some dpC := rfl
theorem RW0_ct25 : RW0.ct 25 = some plcC := rfl
theorem RW0_ok : EnvOk Try.prog RW0 := by
  refine ⟨fun f c h => ?_, fun f vf h => ?_, (fun _ _ _ h => by cases h), by kernel_rfl⟩
  · simp only [RW0] at h
    split at h
    · cases h; exact ⟨rbd_ok, Try.f39, Try.func39, by kernel_rfl, by kernel_rfl⟩
    · cases h; exact ⟨rft_ok, Try.f40, Try.func40, by kernel_rfl, by kernel_rfl⟩
    · cases h; exact ⟨div_ok, Try.f41, Try.func41, by kernel_rfl, by kernel_rfl⟩
    · cases h; exact ⟨rdp_ok, Try.f24, Try.func24, by kernel_rfl, by kernel_rfl⟩
    · cases h; exact ⟨rplc_ok, Try.f25, Try.func25, by kernel_rfl, by kernel_rfl⟩
    · cases h
  · cases h

theorem rrw_ok : rrwC.ok Try.prog 12 := by
  refine contract Try.func12 v12_is RW0_ok 500 rrwC fun args k h => ?_
  simp only [rrwC] at h
  split at h
  · rename_i w d c a s t z n sz get t' z' n' sz' get'
    obtain ⟨b, l, ⟨hbp, ⟨rfl, rfl, hg⟩, hsmall, hbig, hwk⟩, h⟩ := h
    refine ⟨[.agg (encB t z b), .vs t' z' l.length 2 (fun k => encT (l.getD k default))], ⟨brd_le hbp, by simpa [le] using hg, trivial⟩, ?_⟩
    have h : k (.tup [lsS (rowsR b l).1, .int .i64 (rowsR b l).2]) [] := h
    dsimp only [v12, RW0_ct39, rbdC, encB, encT, go_sem, Option.bind, Option.map, List.append_nil, Nat.beq, List.cons_append, List.nil_append, List.append_eq, List.map_cons, List.map_nil, ite_self, reduceIte]
    simp only [true_and, and_true, imp_self, implies_true, decide_eq_true_eq, decide_eq_false_iff_not, Nat.reduceAdd, Nat.reduceLeDiff, Bool.not_not, reduceCtorEq, false_imp_iff, Bool.not_eq_true', Bool.not_eq_false', Bool.false_eq_true, and_self, forall_const, ne_eq, not_false_eq_true, Nat.reduceEqDiff]
    refine ⟨fun hc => ?_, fun hc => ?_⟩
    · have e : askF b l = 3 := by
        rw [Bool.or_eq_true, decide_eq_true_eq, decide_eq_true_eq] at hc
        unfold askF
        rw [if_pos (by omega)]
      rw [rowsR, if_pos (by rw [e]; decide), e] at h
      exact ans_lsn h
    · rw [Bool.or_eq_false_iff, decide_eq_false_iff_not, decide_eq_false_iff_not] at hc
      have hl10 : l.length ≤ 10 := by omega
      have e0 : askF b l = if wrongF b || l.any (fun f => footF f.1 f.2) then 2 else 0 := by
        unfold askF
        rw [if_neg (by omega)]
      refine ⟨b, ⟨⟨⟨rfl, rfl, rfl, rfl, rfl⟩, lsP_self⟩, by omega⟩, ?_⟩
      generalize hbb : (!wrongF b) = bb
      refine Loop.keep [1, 0] Nat (fun i => [(6, .bool (rtG bb l i)), (7, .int .i64 i)]) (fun _ => []) [] (fun i => i ≤ l.length) (fun i => l.length - i) ?_ ?_
      · refine ⟨0, Nat.zero_le _, ?_⟩
        dsimp only [go_sem, Option.bind, Option.map, List.append_nil, Nat.beq, List.cons_append, List.nil_append, List.append_eq, List.map_cons, List.map_nil, ite_self, reduceIte]
        simp only [rtG, List.take_zero, List.all_nil, Bool.and_true, leS_mk, leL_cons, leL_nil, le_junk, le_int, le_bool, le_nil, leLL_nil, leLL_cons, leH_cons, leH_nil, leH1_box, leH1_own, leH1_gone, le_vs, le_agg, le_tup, le_ptr, le_own, le_xp, le_fn, le_opt, le_val, le_elem, le_nil_own, le_nil_vs, leH_ghost, leL_chunk, leXL_id, bnd_int, bnd_bool, bnd_val, bnd_nil, bnd_junk, bnd_vs, bnd_xp, bnd_agg, bnd_tup, bnd_ptr, bnd_own, bnd_elem, bnd_fn, bnd_iface, bnd_opt, bndL_nil, bndL_cons, lenH_cons, lenH_nil, imp_self, implies_true, true_and, and_true] <;> simp
      · rintro i hi
        dsimp only [RW0_ct40, rftC, encT, Int.toNat_natCast, go_sem, Option.bind, Option.map, List.append_nil, Nat.beq, List.cons_append, List.nil_append, List.append_eq, List.map_cons, List.map_nil, ite_self, reduceIte]
        simp only [true_and, and_true, imp_self, implies_true, decide_eq_true_eq, decide_eq_false_iff_not, Nat.reduceAdd, Nat.reduceLeDiff, Bool.not_not, reduceCtorEq, false_imp_iff, Bool.not_eq_true', Bool.not_eq_false', Bool.false_eq_true, and_self, forall_const, ne_eq, not_false_eq_true, Nat.reduceEqDiff]
        refine ⟨fun hlt => ?_, fun hge => ⟨fun hr => ?_, fun hr => ?_⟩⟩
        · have hi' : i < l.length := by omega
          refine ⟨fun _ => ⟨by omega, hlt⟩, fun _ => ⟨by omega, hlt⟩, i + 1, by omega, by omega, ?_⟩
          simp only [w_succ (i := i) (n := l.length) (by omega) (by omega), rtG_succ hi', leS_mk, leL_cons, leL_nil, le_junk, le_int, le_bool, le_nil, leLL_nil, leLL_cons, leH_cons, leH_nil, leH1_box, leH1_own, leH1_gone, le_vs, le_agg, le_tup, le_ptr, le_own, le_xp, le_fn, le_opt, le_val, le_elem, le_nil_own, le_nil_vs, leH_ghost, leL_chunk, leXL_id, bnd_int, bnd_bool, bnd_val, bnd_nil, bnd_junk, bnd_vs, bnd_xp, bnd_agg, bnd_tup, bnd_ptr, bnd_own, bnd_elem, bnd_fn, bnd_iface, bnd_opt, bndL_nil, bndL_cons, lenH_cons, lenH_nil, imp_self, implies_true, true_and, and_true] <;> simp
        · obtain rfl : i = l.length := by omega
          rw [rt_all, ← hbb] at hr
          have e : askF b l = 2 := by
            rw [e0, if_pos]
            cases h1 : wrongF b <;> cases h2 : (l.any fun f => footF f.1 f.2) <;> simp [h1, h2] at hr ⊢
          rw [rowsR, if_pos (by rw [e]; decide), e] at h
          exact ans_lsn h
        · obtain rfl : i = l.length := by omega
          rw [rt_all, ← hbb, Bool.and_eq_true, Bool.not_eq_true', Bool.not_eq_true'] at hr
          have e : askF b l = 0 := by rw [e0, if_neg (by rw [hr.1, hr.2]; simp)]
          obtain ⟨hok, hfo, _⟩ := askF_ok e
          rw [rowsR, if_neg (by rw [e]; decide)] at h
          dsimp only [RW0_ct41, divC, dvC, vsN, go_sem, Option.bind, Option.map, List.append_nil, Nat.beq, List.cons_append, List.nil_append, List.append_eq, List.map_cons, List.map_nil, ite_self, reduceIte]
          simp only [true_and, and_true, imp_self, implies_true, decide_eq_true_eq, decide_eq_false_iff_not, Nat.reduceAdd, Nat.reduceLeDiff, Bool.not_not, reduceCtorEq, false_imp_iff, Bool.not_eq_true', Bool.not_eq_false', Bool.false_eq_true, and_self, forall_const, ne_eq, not_false_eq_true, Nat.reduceEqDiff]
          refine ⟨l.length, ⟨rfl, by omega⟩, by decide, ?_⟩
          have hpow : (divsL l.length).length ≤ 1024 := by
            have := divs_pow l.length
            have h2 : 2 ^ l.length ≤ 2 ^ 10 := Nat.pow_le_pow_right (by omega) hl10
            omega
          have hfx := foldX_is (b := b) hok.2.2.1 (l := l) (by omega) hfo
          have hmem : ∀ x ∈ divsL l.length, x.length ≤ 10 := fun x hx => Nat.le_trans (divs_len _ x hx) hl10
          generalize hA : divsL l.length = A at *
          unfold foldX at hfx
          refine Loop.keepF [1, 0, 5] (Nat × Bool) (fun s => [(9, .vs true s.2 ((A.take s.1).foldl (stepX b l) ⟨[], 0, false⟩).best.length 1 (fun k => encI (((A.take s.1).foldl (stepX b l) ⟨[], 0, false⟩).best.getD k default))), (10, .int .i64 ((A.take s.1).foldl (stepX b l) ⟨[], 0, false⟩).depth), (11, .bool ((A.take s.1).foldl (stepX b l) ⟨[], 0, false⟩).is), (12, .int .i64 s.1)]) (fun _ => [(1, .gone)]) [] (fun s => s.1 ≤ A.length) (fun s => A.length - s.1) ?_ ?_
          · refine ⟨(0, false), Nat.zero_le _, [1], ?_, ?_⟩
            · dsimp only [go_sem, Option.bind, Option.map, List.append_nil, Nat.beq, List.cons_append, List.nil_append, List.append_eq, List.map_cons, List.map_nil, ite_self, reduceIte]
              exact ⟨fun k hk => by omega, trivial⟩
            · dsimp only [List.take_zero, List.foldl_nil, go_sem, Option.bind, Option.map, List.append_nil, Nat.beq, List.cons_append, List.nil_append, List.append_eq, List.map_cons, List.map_nil, ite_self, reduceIte]
              simp only [leS_mk, leL_cons, leL_nil, le_junk, le_int, le_bool, le_nil, leLL_nil, leLL_cons, leH_cons, leH_nil, leH1_box, leH1_own, leH1_gone, le_vs, le_agg, le_tup, le_ptr, le_own, le_xp, le_fn, le_opt, le_val, le_elem, le_nil_own, le_nil_vs, leH_ghost, leL_chunk, leXL_id, bnd_int, bnd_bool, bnd_val, bnd_nil, bnd_junk, bnd_vs, bnd_xp, bnd_agg, bnd_tup, bnd_ptr, bnd_own, bnd_elem, bnd_fn, bnd_iface, bnd_opt, bndL_nil, bndL_cons, lenH_cons, lenH_nil, imp_self, implies_true, true_and, and_true] <;> simp
          · rintro ⟨i, zf⟩ hi
            dsimp only at hi
            dsimp only [RW0_ct24, RW0_ct25, dpC, plcC, lsS, lsR, encB, encT, encI, Int.toNat_natCast, go_sem, Option.bind, Option.map, List.append_nil, Nat.beq, List.cons_append, List.nil_append, List.append_eq, List.map_cons, List.map_nil, ite_self, reduceIte]
            simp only [true_and, and_true, imp_self, implies_true, decide_eq_true_eq, decide_eq_false_iff_not, Nat.reduceAdd, Nat.reduceLeDiff, Bool.not_not, reduceCtorEq, false_imp_iff, Bool.not_eq_true', Bool.not_eq_false', Bool.false_eq_true, and_self, forall_const, ne_eq, not_false_eq_true, Nat.reduceEqDiff]
            refine ⟨fun hlt => ?_, fun hge => ?_⟩
            · have hi' : i < A.length := by omega
              have hst : (A.take (i + 1)).foldl (stepX b l) ⟨[], 0, false⟩ = stepX b l ((A.take i).foldl (stepX b l) ⟨[], 0, false⟩) (A.getD i default) := foldl_take_succ hi'
              have hxl := hmem _ (getD_mem hi')
              generalize (A.take i).foldl (stepX b l) ⟨[], 0, false⟩ = B at *
              generalize A.getD i default = x at *
              refine ⟨⟨by omega, hlt⟩, b, l, castL x, ⟨⟨⟨rfl, rfl, rfl, rfl, rfl⟩, lsP_self⟩, lsP_self, cast_ls, hok, hfo, by omega, by rw [cast_len]; omega⟩, ?_⟩
              have hcond : ((depF b l (castL x) 0 true).2 && decide ((depF b l (castL x) 0 true).1 ≤ b.d) && (!B.is || decide ((depF b l (castL x) 0 true).1 < B.depth) || decide ((depF b l (castL x) 0 true).1 = B.depth) && decide ((x.length : Int) < B.best.length))) = true ↔ (goodX b l x ∧ (B.is = false ∨ dX b l x < B.depth ∨ dX b l x = B.depth ∧ x.length < B.best.length)) := by
                unfold goodX dX
                generalize depF b l (castL x) 0 true = D
                rw [Bool.and_eq_true, Bool.and_eq_true, Bool.or_eq_true, Bool.or_eq_true, Bool.and_eq_true, Bool.not_eq_true', decide_eq_true_eq, decide_eq_true_eq, decide_eq_true_eq, decide_eq_true_eq]
                constructor
                · rintro ⟨h1, (h2 | h2) | ⟨h2, h3⟩⟩
                  · exact ⟨h1, .inl h2⟩
                  · exact ⟨h1, .inr (.inl h2)⟩
                  · exact ⟨h1, .inr (.inr ⟨h2, by omega⟩)⟩
                · rintro ⟨h1, h2 | h2 | ⟨h2, h3⟩⟩
                  · exact ⟨h1, .inl (.inl h2)⟩
                  · exact ⟨h1, .inl (.inr h2)⟩
                  · exact ⟨h1, .inr ⟨h2, by omega⟩⟩
              have hsx : stepX b l B x = if goodX b l x ∧ (B.is = false ∨ dX b l x < B.depth ∨ dX b l x = B.depth ∧ x.length < B.best.length) then ⟨x, dX b l x, true⟩ else B := rfl
              rw [hsx] at hst
              refine ⟨by decide, by decide, fun p q => by rw [p, q]; rfl, fun _ => ⟨by omega, hlt⟩, fun p q => by rw [p, decide_eq_true q]; rfl, fun p q => by rw [p, q]; rfl, fun hc => ?_, fun hc => ?_⟩
              · rw [if_pos (hcond.1 hc)] at hst
                refine ⟨⟨by omega, hlt⟩, (i + 1, decide (x.length = 0)), by dsimp only; omega, by dsimp only; omega, [], trivial, ?_⟩
                dsimp only [encI, go_sem, Option.bind, Option.map, List.append_nil, Nat.beq, List.cons_append, List.nil_append, List.append_eq, List.map_cons, List.map_nil, ite_self, reduceIte]
                simp only [w_succ (i := i) (n := A.length) (by omega) (by omega), hst, leS_mk, leL_cons, leL_nil, le_junk, le_int, le_bool, le_nil, leLL_nil, leLL_cons, leH_cons, leH_nil, leH1_box, leH1_own, leH1_gone, le_vs, le_agg, le_tup, le_ptr, le_own, le_xp, le_fn, le_opt, le_val, le_elem, le_nil_own, le_nil_vs, leH_ghost, leL_chunk, leXL_id, bnd_int, bnd_bool, bnd_val, bnd_nil, bnd_junk, bnd_vs, bnd_xp, bnd_agg, bnd_tup, bnd_ptr, bnd_own, bnd_elem, bnd_fn, bnd_iface, bnd_opt, bndL_nil, bndL_cons, lenH_cons, lenH_nil, imp_self, implies_true, true_and, and_true] <;> simp [dX]
              · have hn : ¬ (goodX b l x ∧ (B.is = false ∨ dX b l x < B.depth ∨ dX b l x = B.depth ∧ x.length < B.best.length)) := fun h => by rw [hcond.2 h] at hc; cases hc
                rw [if_neg hn] at hst
                refine ⟨(i + 1, zf), by dsimp only; omega, by dsimp only; omega, [], trivial, ?_⟩
                dsimp only [encI, go_sem, Option.bind, Option.map, List.append_nil, Nat.beq, List.cons_append, List.nil_append, List.append_eq, List.map_cons, List.map_nil, ite_self, reduceIte]
                simp only [w_succ (i := i) (n := A.length) (by omega) (by omega), hst, leS_mk, leL_cons, leL_nil, le_junk, le_int, le_bool, le_nil, leLL_nil, leLL_cons, leH_cons, leH_nil, leH1_box, leH1_own, leH1_gone, le_vs, le_agg, le_tup, le_ptr, le_own, le_xp, le_fn, le_opt, le_val, le_elem, le_nil_own, le_nil_vs, leH_ghost, leL_chunk, leXL_id, bnd_int, bnd_bool, bnd_val, bnd_nil, bnd_junk, bnd_vs, bnd_xp, bnd_agg, bnd_tup, bnd_ptr, bnd_own, bnd_elem, bnd_fn, bnd_iface, bnd_opt, bndL_nil, bndL_cons, lenH_cons, lenH_nil, imp_self, implies_true, true_and, and_true] <;> simp
            · obtain rfl : i = A.length := by omega
              rw [List.take_length]
              generalize A.foldl (stepX b l) ⟨[], 0, false⟩ = B at *
              refine ⟨fun hn => ?_, fun hy => ?_⟩
              · have hno : (headP b l).is = false ∨ b.d < (headP b l).depth := by
                  rcases hfx with hfx | hfx
                  · exact hfx.1
                  · rw [hfx.2.2.1] at hn; cases hn
                rw [if_pos hno] at h
                exact ans_lsn h
              · rcases hfx with hfx | ⟨hfx1, hfx2, _, hfx4⟩
                · rw [hfx.2] at hy; cases hy
                have hyes : ¬ ((headP b l).is = false ∨ b.d < (headP b l).depth) := by
                  rw [hfx1]; simp; omega
                rw [if_neg hyes] at h
                have hdv := (div_is hok.2.2.1 l.length l rfl (by omega) hfo hfx1).1
                rw [← hfx4] at hdv h
                refine ⟨b, l, B.best, ⟨⟨⟨rfl, rfl, rfl, rfl, rfl⟩, lsP_self⟩, lsP_self, cast_ls, hok, hfo, by omega, hdv⟩, ?_⟩
                refine ans_le (show k _ [] from h) ?_ (fun _ => by simp [lsS, encS, freshS, freshL])
                simp only [lsS, expo, view, viewL]
                refine ⟨⟨fun h => h, rfl, rfl, rfl, fun j hj => ?_⟩, ⟨rfl, rfl⟩, trivial⟩
                simp [encS, viewL, view, leXL, leX]
  · exact h.1.elim

theorem place_le {b : Brd} : ∀ {ks : List Nat} {l : List Ft} {y : Int}, (placeL b ks l y).length ≤ l.length
  | [], _, _ => Nat.zero_le _
  | k :: ks, l, y => by
    have := place_le (b := b) (ks := ks) (l := l.drop k) (y := y + (2 * mostF (l.take k) + b.c))
    rw [placeL, List.length_append, rowF_len, List.length_take]
    rw [List.length_drop] at this
    omega
def RW1 : Env := { ct := fun n => match n with | 10 => some trueC | 13 => some samSC | 11 => some rowC | 12 => some rrwC | _ => none, fn := fun _ => none, meth := fun _ _ => none }
theorem RW1_ct10 : RW1.ct 10 = some trueC := rfl
theorem RW1_ct13 : RW1.ct 13 = some samSC := rfl
theorem RW1_ct11 : RW1.ct 11 = some rowC := rfl
theorem RW1_ct12 : RW1.ct 12 = some rrwC := rfl
theorem RW1_ok : EnvOk Try.prog RW1 := by
  refine ⟨fun f c h => ?_, fun f vf h => ?_, (fun _ _ _ h => by cases h), by kernel_rfl⟩
  · simp only [RW1] at h
    split at h
    · cases h; exact ⟨awake_ok, Try.f10, Try.func10, by kernel_rfl, by kernel_rfl⟩
    · cases h; exact ⟨samS_ok, Try.f13, Try.func13, by kernel_rfl, by kernel_rfl⟩
    · cases h; exact ⟨row_ok, Try.f11, Try.func11, by kernel_rfl, by kernel_rfl⟩
    · cases h; exact ⟨rrw_ok, Try.f12, Try.func12, by kernel_rfl, by kernel_rfl⟩
    · cases h
  · cases h

def lawRw : List PSh := [⟨true, shB⟩, ⟨false, [.slice shT]⟩]
theorem lawRows : (lawC lawRw).ok Try.prog 3 := by
  refine contract Try.func3 v3_is RW1_ok 400 (lawC lawRw) fun args k h => ?_
  obtain ⟨ha, hk⟩ := h
  obtain ⟨_, _, rfl, h1, e1⟩ := okPL_cons_inv ha
  obtain ⟨cs, rfl, hcs⟩ := okP_agg_inv h1
  obtain ⟨v, _, rfl, h2, e2⟩ := okPL_cons_inv e1
  cases okPL_nil_inv e2
  obtain ⟨z, b, hbl, hbe⟩ := b_of hcs
  obtain ⟨z', l, hll, hle⟩ := list_of (fun _ => t_of) (okP_one_inv h2)
  rw [maxLen_eq] at hbl hll
  refine ⟨[.agg (encB false z b), .vs false z' l.length 2 (fun k => encT (l.getD k default))], ⟨leXL_le _ _ hbe (by simp [encB, bndL, bnd]), leX_le _ _ hle trivial, trivial⟩, ?_⟩
  dsimp only [v3, RW1_ct10, RW1_ct13, RW1_ct11, RW1_ct12, trueC, rowC, rrwC, samSC, samC, lsS, encS, encB, encT, go_sem, Option.bind, Option.map, List.append_nil, Nat.beq, List.cons_append, List.nil_append, List.append_eq, List.map_cons, List.map_nil, ite_self, reduceIte]
  simp only [true_and, and_true, imp_self, implies_true, decide_eq_true_eq, decide_eq_false_iff_not, Nat.reduceAdd, Nat.reduceLeDiff, Bool.not_not, reduceCtorEq, false_imp_iff, Bool.not_eq_true', Bool.not_eq_false', Bool.false_eq_true, and_self, forall_const, ne_eq, not_false_eq_true, Nat.reduceEqDiff]
  have hk' : k (.bool true) [] := hk
  refine ⟨fun _ => ans_bool hk', fun hf => ?_⟩
  rw [Bool.or_eq_false_iff, Bool.or_eq_false_iff, Bool.and_eq_false_iff, decide_eq_false_iff_not, decide_eq_false_iff_not, decide_eq_false_iff_not, decide_eq_false_iff_not] at hf
  have hRl : (rowsR b l).1.length ≤ 1000000000000 := by
    unfold rowsR
    split
    · exact Nat.zero_le _
    · split
      · exact Nat.zero_le _
      · exact Nat.le_trans place_le (by omega)
  refine ⟨b, l, ⟨brdP_self b, lsP_self, by omega⟩, by decide, by decide, b, l, ⟨brdP_self b, lsP_self, by omega, by omega, by omega⟩, by decide, by decide, ?_⟩
  refine ⟨(rowsR b l).1, (rowsR b l).1, ⟨lsP_self, lsP_self, hRl⟩, ?_⟩
  rw [decide_eq_true rfl, decide_eq_true rfl]
  exact ans_bool hk'
end Go.Proofs.Ytojaibhjfeojjaa

/- Laws, as they are given, without a condition. -/
/- Laws, as they are given, without a condition. -/
set_option linter.all false
namespace Go.Proofs.Ytojaibhjfeojjaa
open Go Go.Vx Go.RowKit
set_option maxRecDepth 100000

theorem ownX13 : ownKnob Try.prog.godebug = none := by kernel_rfl
theorem laidX13 : laidOutB Try.prog = true := by kernel_rfl

theorem layoutRows_lifted (os : Os) (started : os.Started) (H : Type) (enc : TypeId × Value → H) :
    ReturnsInHanded {} Try.checked os 3 .any (Rows.layoutRowsSpec.pre6 enc Try.prog Try.f3 Rows.layoutRowsRow.domain false) (Rows.layoutRowsSpec.post enc Try.prog Try.f3 false true false false) :=
  law_lifted (C := Try.checked) (tb := 4) ownX13 started (by kernel_rfl) Try.func3 laidX13
    (ChangeSpec.witness6 (enc := enc) (C := Try.checked) false ⟨#[], #[.agg #[.int .i64 0, .int .i64 0, .int .i64 0, .int .i64 0, .int .i64 0, .slice none 0 0], .slice none 0 0], []⟩ 8 (by kernel_rfl) (by kernel_rfl) (by kernel_rfl) (by kernel_rfl))
    (by kernel_rfl) (by kernel_rfl) (by kernel_rfl) (by kernel_rfl) rfl (fun ds h => match ds, h with | [_, _], _ => ⟨rfl, rfl, rfl⟩) lawRows

theorem layoutRows_holds : Rows.LayoutRowsSaid :=
  OpenClaim.holds_of_wide 3 Try.f3 rfl rfl rfl rfl rfl rfl rfl ⟨rfl, rfl, rfl, rfl, rfl⟩ rfl rfl rfl rfl rfl (by kernel_rfl) Try.func3 (by kernel_rfl)
    (of_decide_eq_true (by kernel_rfl)) (by unfold Func.isWrapper; first | (rw [if_pos (by decide +kernel)]; kernel_rfl) | (rw [if_neg (by decide +kernel)]; exact ⟨rfl, rfl⟩))
    (fun os started H enc _ => layoutRows_lifted os started H enc)

end Go.Proofs.Ytojaibhjfeojjaa

