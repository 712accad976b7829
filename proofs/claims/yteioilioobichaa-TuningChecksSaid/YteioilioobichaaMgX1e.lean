/- Tuning, walked: Rest and Plan of the program. -/
import Derived.Test.YteioilioobichaaMgX1d
import Derived.Test.YteioilioobichaaRows
/- Tuning, walked: Rest and Plan of the program. -/
set_option linter.all false
namespace Go.Proofs.Yteioilioobichaa
open Go Go.Vx
set_option maxRecDepth 100000
set_option maxHeartbeats 4000000

def v18 : VF := { ntmps := 132, res := [.tmp 8, .tmp 9, .tmp 10], body :=
 (.seq (.region [u1 4 .box [.tm 0],
 u1 8 .mov [.cn .nil],
 u1 9 .mov [.cn (.int .i64 0)],
 u1 10 .mov [.cn (.int .i64 0)]])
 (.seq (.seq (.region [u1 24 (.load true 1) [.tm 4],
 u1 25 .mov [.tm 1],
 u1 26 (.call 13) [.tm 24, .tm 25],
 u1 11 .mov [.tm 26]])
 (.seq (.region [u1 27 .mov [.tm 11],
 u1 28 (.cmp .neq) [.tm 27, .cn (.int .i64 0)]])
 (.cond (.tm 28) (.seq (.region [u1 29 .mov [.tm 11],
 u1 8 .mov [.cn .nil],
 u1 9 .mov [.cn (.int .i64 0)],
 u1 10 .mov [.tm 29]])
 .ret)
  .skip)))
 (.seq (.region [u1 30 .mov [.tm 2],
 u1 31 (.cmp .geq) [.tm 30, .cn (.int .i64 0)],
 u1 32 .mov [.tm 31],
 u2 33 32 true .mov [.tm 2],
 u2 34 32 true (.fieldAddr 0) [.tm 4],
 u2 35 32 true (.load false 1) [.tm 34],
 u2 36 32 true .len [.tm 35],
 u2 37 32 true (.cmp .lss) [.tm 33, .tm 36],
 u1 38 .and [.tm 32, .tm 37],
 u1 12 .mov [.tm 38]])
 (.seq (.region [u1 13 .mov [.cn (.int .u64 0)]])
 (.seq (.seq (.region [u1 39 .mov [.tm 3],
 u1 40 .len [.tm 39],
 u1 41 .mov [.cn (.int .i64 0)]])
 (.block 0 (.loop (.seq (.region [u1 42 (.cmp .lss) [.tm 41, .tm 40]])
 (.seq (.cond (.tm 42) .skip
  (.exit 0))
 (.seq (.block 1 (.seq (.region [u1 43 (.idxAddr 1) [.tm 39, .tm 41],
 u1 44 (.load false 1) [.tm 43],
 u1 15 .mov [.tm 44]])
 (.seq (.region [u1 45 .mov [.tm 12],
 u1 46 .mov [.tm 45],
 u2 47 46 true .mov [.tm 15],
 u2 48 46 true (.cmp .geq) [.tm 47, .cn (.int .i64 0)],
 u1 49 .and [.tm 46, .tm 48],
 u1 50 .mov [.tm 49],
 u2 51 50 true .mov [.tm 15],
 u2 52 50 true .mov [.tm 1],
 u2 53 50 true .len [.tm 52],
 u2 54 50 true (.cmp .lss) [.tm 51, .tm 53],
 u1 55 .and [.tm 50, .tm 54],
 u1 56 .mov [.tm 55],
 u2 57 56 true .mov [.tm 13],
 u2 58 56 true .mov [.tm 15],
 u2 59 56 true (.buildSlice 1 1 [(.int .i64 0)] [(0, 1)]) [.tm 58],
 u2 60 56 true (.call 29) [.tm 59],
 u2 61 56 true (.bit .and) [.tm 57, .tm 60],
 u2 62 56 true (.cmp .eql) [.tm 61, .cn (.int .u64 0)],
 u1 63 .and [.tm 56, .tm 62],
 u1 12 .mov [.tm 63]])
 (.seq (.seq (.region [u1 64 .mov [.tm 12],
 u1 65 .not [.tm 64]])
 (.cond (.tm 65) (.exit 0)
  .skip))
 (.region [u1 66 .mov [.tm 13],
 u1 67 .mov [.tm 15],
 u1 68 (.buildSlice 1 1 [(.int .i64 0)] [(0, 1)]) [.tm 67],
 u1 69 (.call 29) [.tm 68],
 u1 70 (.bit .or) [.tm 66, .tm 69],
 u1 13 .mov [.tm 70]])))))
 (.region [u1 71 (.ari .add) [.tm 41, .cn (.int .i64 1)],
 u1 41 .mov [.tm 71]])))))))
 (.seq (.seq (.region [u1 72 .mov [.tm 12],
 u1 73 .not [.tm 72]])
 (.cond (.tm 73) (.seq (.region [u1 8 .mov [.cn .nil],
 u1 9 .mov [.cn (.int .i64 0)],
 u1 10 .mov [.cn (.int .i64 2)]])
 .ret)
  .skip))
 (.seq (.seq (.region [u1 74 .mov [.tm 3],
 u1 75 .len [.tm 74],
 u1 76 .mov [.cn (.int .i64 0)]])
 (.block 2 (.loop (.seq (.region [u1 77 (.cmp .lss) [.tm 76, .tm 75]])
 (.seq (.cond (.tm 77) .skip
  (.exit 2))
 (.seq (.block 3 (.seq (.region [u1 78 (.idxAddr 1) [.tm 74, .tm 76],
 u1 79 (.load false 1) [.tm 78],
 u1 17 .mov [.tm 79]])
 (.seq (.region [u1 80 .mov [.tm 1],
 u1 81 .mov [.tm 17],
 u1 82 (.idxAddr 4) [.tm 80, .tm 81],
 u1 83 (.fieldAddr 2) [.tm 82],
 u1 84 (.load false 1) [.tm 83],
 u1 85 (.call 29) [.tm 84],
 u1 18 .mov [.tm 85]])
 (.seq (.region [u1 86 .mov [.tm 13],
 u1 87 .mov [.tm 18],
 u1 88 (.bit .and) [.tm 86, .tm 87],
 u1 89 .mov [.tm 18],
 u1 90 (.cmp .neq) [.tm 88, .tm 89]])
 (.cond (.tm 90) (.seq (.region [u1 8 .mov [.cn .nil],
 u1 9 .mov [.cn (.int .i64 0)],
 u1 10 .mov [.cn (.int .i64 4)]])
 .ret)
  .skip)))))
 (.region [u1 91 (.ari .add) [.tm 76, .cn (.int .i64 1)],
 u1 76 .mov [.tm 91]])))))))
 (.seq (.region [u1 92 (.load true 1) [.tm 4],
 u1 93 .mov [.tm 1],
 u1 94 (.mkMap [.u64, .i64]) [],
 u1 95 (.build [.nil, .nil, (.val (.map none))] [(0, 1), (1, 1), (2, 1)]) [.tm 92, .tm 93, .tm 94],
 u1 96 .box [.tm 95],
 u1 19 .mov [.tm 96]])
 (.seq (.region [u1 97 .mov [.tm 13],
 u1 98 .mov [.tm 2],
 u1 99 (.build [(.int .u64 0), (.int .i64 0)] [(0, 1), (1, 1)]) [.tm 97, .tm 98],
 u1 20 (.alloc [(.int .u64 0), (.int .i64 0)]) [],
 u0 (.store 2) [.tm 20, .tm 99]])
 (.seq (.region [u1 101 .mov [.tm 19],
 u1 102 (.load true 2) [.tm 20],
 u1 103 (.call 33) [.tm 101, .tm 102],
 u1 100 .mov [.tm 103],
 u1 104 (.ext 0) [.tm 100],
 u1 105 (.ext 1) [.tm 100],
 u1 21 .mov [.tm 104],
 u1 22 .mov [.tm 105]])
 (.seq (.region [u1 23 .mov [.cn .nil]])
 (.seq (.block 4 (.loop (.seq (.seq (.region [u1 106 .mov [.tm 22],
 u1 107 (.cmp .geq) [.tm 106, .cn (.int .i64 0)]])
 (.cond (.tm 107) .skip
  (.exit 4)))
 (.block 5 (.seq (.region [u1 108 .mov [.tm 23],
 u1 109 .mov [.tm 22],
 u1 110 (.buildSlice 1 1 [(.int .i64 0)] [(0, 1)]) [.tm 109],
 u1 111 (.append 1 8 [(.int .i64 0)]) [.tm 108, .tm 110],
 u1 23 .mov [.tm 111]])
 (.seq (.draw [] [w1 112 (.fieldAddr 0) [.tm 20],
 w1 113 (.load false 1) [.tm 112],
 w1 114 .mov [.tm 22],
 w1 118 .mov [.tm 1],
 w1 119 .mov [.tm 22],
 w1 120 (.idxAddr 4) [.tm 118, .tm 119],
 w1 121 (.fieldAddr 1) [.tm 120],
 w1 122 (.load false 1) [.tm 121],
 w1 115 (.buildSlice 1 1 [(.int .i64 0)] [(0, 1)]) [.tm 114],
 w1 116 (.call 29) [.tm 115],
 w1 117 (.bit .or) [.tm 113, .tm 116],
 w1 123 (.build [(.int .u64 0), (.int .i64 0)] [(0, 1), (1, 1)]) [.tm 117, .tm 122],
 w0 (.store 2) [.tm 20, .tm 123]])
 (.region [u1 125 .mov [.tm 19],
 u1 126 (.load true 2) [.tm 20],
 u1 127 (.call 33) [.tm 125, .tm 126],
 u1 124 .mov [.tm 127],
 u1 128 (.ext 0) [.tm 124],
 u1 129 (.ext 1) [.tm 124],
 u1 22 .mov [.tm 129]])))))))
 (.seq (.region [u1 130 .mov [.tm 23],
 u1 131 .mov [.tm 21],
 u1 8 .mov [.tm 130],
 u1 9 .mov [.tm 131],
 u1 10 .mov [.cn (.int .i64 0)]])
 .ret))))))))))))) }
theorem v18_is : vfunc Try.prog Try.f18 = some v18 := by kernel_rfl
def v16 : VF := { ntmps := 16, res := [.tmp 6, .tmp 7, .tmp 8], body :=
 (.seq (.region [u1 3 .box [.tm 0],
 u1 6 .mov [.cn .nil],
 u1 7 .mov [.cn (.int .i64 0)],
 u1 8 .mov [.cn (.int .i64 0)]])
 (.seq (.region [u1 9 (.load true 1) [.tm 3],
 u1 10 .mov [.tm 1],
 u1 11 .mov [.tm 2],
 u1 12 (.call 18) [.tm 9, .tm 10, .tm 11, .cn .nil],
 u1 13 (.ext 0) [.tm 12],
 u1 14 (.ext 1) [.tm 12],
 u1 15 (.ext 2) [.tm 12],
 u1 6 .mov [.tm 13],
 u1 7 .mov [.tm 14],
 u1 8 .mov [.tm 15]])
 .ret)) }
theorem v16_is : vfunc Try.prog Try.f16 = some v16 := by kernel_rfl

def RestC : Ctr := { alias := false, of := fun l => match l with
  | [.agg [.vs _ _ n sz get], .vs _ _ n' sz' get', .int .i64 place, .vs _ _ n'' sz'' get''] => .ex Hal fun h => .ex (List Wk) fun l => .ex (List Int) fun o => .pre (lsP 1 encR n sz get h ∧ lsP 4 encK n' sz' get' l ∧ lsP 1 enc1 n'' sz'' get'' o ∧ ((h.length ≤ 1000000000000 ∧ l.length ≤ 1000000000000) ∧ (∀ x ∈ h, x.v.length ≤ 1000000000000) ∧ okW l) ∧ o.length ≤ 1000000000000) (.all Bool fun z => .fin (.tup [.vs true z (RestF h l place o).1.length 1 (fun k => enc1 ((RestF h l place o).1.getD k default)), .int .i64 (RestF h l place o).2.1, .int .i64 (RestF h l place o).2.2]) [])
  | [.agg [.vs _ _ n sz get], .vs _ _ n' sz' get', .int .i64 place, .nil] => .ex Hal fun h => .ex (List Wk) fun l => .pre (lsP 1 encR n sz get h ∧ lsP 4 encK n' sz' get' l ∧ ((h.length ≤ 1000000000000 ∧ l.length ≤ 1000000000000) ∧ (∀ x ∈ h, x.v.length ≤ 1000000000000) ∧ okW l)) (.all Bool fun z => .fin (.tup [.vs true z (RestF h l place []).1.length 1 (fun k => enc1 ((RestF h l place []).1.getD k default)), .int .i64 (RestF h l place []).2.1, .int .i64 (RestF h l place []).2.2]) [])
  | _ => noC }
theorem encR_view {hp : List HO} {j : List SV → List SV} {x : Rw} : leXL (viewL false hp j (encR x)) (encR x) := by simp [encR, enc1, viewL, view, leXL, leX, andT]
def ofD : Ctr := { alias := false, of := fun l => match l with
  | [.vs _ _ n sz get] => .ex (List Int) fun l => .pre (lsP 1 enc1 n sz get l ∧ smallL l ∧ l.length ≤ 1000000000000) (.fin (.int .u64 (maskF l)) [])
  | _ => .pre False (.fin (.int .u64 0) []) }
theorem ofd_ok : ofD.ok Try.prog 29 := fun args vs z k hsat hx hc => of_ok args vs z k hsat hx (by
  simp only [ofD] at hc
  simp only [ofC]
  split at hc
  · exact hc
  · exact hc.1.elim)
def TK0 : Env := { ct := fun n => match n with | 13 => some chkC | 29 => some ofD | 33 => some fewC | _ => none, fn := fun _ => none, meth := fun _ _ => none }
theorem TK0_ct13 : TK0.ct 13 = some chkC := rfl
theorem TK0_ct29 : TK0.ct 29 = some ofD := rfl
theorem TK0_ct33 : TK0.ct 33 = some fewC := rfl
theorem TK0_ok : EnvOk Try.prog TK0 := by
  refine ⟨fun f c h => ?_, fun f vf h => ?_, (fun _ _ _ h => by cases h), by kernel_rfl⟩
  · simp only [TK0] at h
    split at h
    · cases h; exact ⟨chk_ok, Try.f13, Try.func13, by kernel_rfl, by kernel_rfl⟩
    · cases h; exact ⟨ofd_ok, Try.f29, Try.func29, by kernel_rfl, by kernel_rfl⟩
    · cases h; exact ⟨few_ok, Try.f33, Try.func33, by kernel_rfl, by kernel_rfl⟩
    · cases h
  · cases h

theorem Rest_run {k : SV → List HO → Prop} {z z' z'' : Bool} {place : Int} {h0 : Hal} {l : List Wk} {o : List Int} (hl : h0.length ≤ 1000000000000 ∧ l.length ≤ 1000000000000) (hh : ∀ x ∈ h0, x.v.length ≤ 1000000000000) (hw : okW l) (ho : o.length ≤ 1000000000000)
    (h : ∀ z : Bool, k (.tup [.vs true z (RestF h0 l place o).1.length 1 (fun k => enc1 ((RestF h0 l place o).1.getD k default)), .int .i64 (RestF h0 l place o).2.1, .int .i64 (RestF h0 l place o).2.2]) []) :
    run TK0 (answers RestC.alias k) v18.res 300 [.code v18.body] { fr := padL v18.ntmps [.agg [.vs false z h0.length 1 (fun k => encR (h0.getD k default))], .vs false z' l.length 4 (fun k => encK (l.getD k default)), .int .i64 place, .vs false z'' o.length 1 (fun k => enc1 (o.getD k default))], saved := [], hp := [] } := by
  dsimp only [v18, TK0_ct13, TK0_ct29, chkC, ofD, encK, go_sem, Option.bind, Option.map, List.append_nil, Nat.beq, List.cons_append, List.nil_append, List.append_eq, List.map_cons, List.map_nil, ite_self, reduceIte]
  simp only [true_and, and_true, imp_self, implies_true, decide_eq_true_eq, decide_eq_false_iff_not, Nat.reduceAdd, Nat.reduceLeDiff, Bool.not_not, reduceCtorEq, false_imp_iff, Bool.not_eq_true', Bool.not_eq_false', Bool.false_eq_true, and_self, forall_const, ne_eq, not_false_eq_true, Nat.reduceEqDiff]
  unfold RestF at h
  refine ⟨h0, l, ⟨⟨rfl, rfl, fun k _ => leXL_self _⟩, ⟨rfl, rfl, fun k _ => leXL_self _⟩, hl, hh, hw⟩, fun hc => ?_, fun hc => ?_⟩
  · rw [if_pos hc] at h
    exact ans_le (h true) (by simp [expo, view, viewL, leL, le]) (fun _ => by simp [freshS, freshL])
  rw [if_neg (by omega)] at h
  obtain ⟨c1, c2, c3, c4, c5⟩ := chk_facts hc
  have haft := aft_of_good c3
  have hsm := aft_small haft c2
  obtain ⟨pg, hpg⟩ : ∃ pg, pg = (decide (0 ≤ place) && decide (place < (h0.length : Int))) := ⟨_, rfl⟩
  rw [← hpg]
  have hpf : pg = false → befF h0 l place o = none := fun hp => by
    unfold befF; rw [if_pos]
    rw [hp] at hpg
    have := hpg.symm
    simp only [Bool.and_eq_false_iff, decide_eq_false_iff_not] at this
    omega
  have hpt : pg = true → (0 ≤ place ∧ place < (h0.length : Int)) ∧ befF h0 l place o = dGo l o := fun hp => by
    rw [hp] at hpg
    have := hpg.symm
    simp only [Bool.and_eq_true, decide_eq_true_eq] at this
    refine ⟨this, ?_⟩
    unfold befF; rw [if_neg (by omega)]
  clear hpg
  refine Loop.keep [1, 0, 0, 0, 34, 0] (Nat × Nat) (fun p => [(12, .bool pg), (13, .int .u64 p.2), (41, .int .i64 p.1)]) (fun _ => []) [] (fun p => p.1 ≤ o.length ∧ dGo l (o.take p.1) = some p.2 ∧ p.2 < 2 ^ l.length ∧ (pg = true ∨ p.1 = 0)) (fun p => o.length - p.1) ?_ ?_
  · refine ⟨(0, 0), ⟨Nat.zero_le _, rfl, Nat.pow_pos (by omega), .inr rfl⟩, ?_⟩
    dsimp only [go_sem, Option.bind, Option.map, List.append_nil, Nat.beq, List.cons_append, List.nil_append, List.append_eq, List.map_cons, List.map_nil, ite_self, reduceIte]
    simp only [leS_mk, leL_cons, leL_nil, le_junk, le_int, le_bool, le_nil, leLL_nil, leLL_cons, leH_cons, leH_nil, leH1_box, leH1_own, leH1_gone, le_vs, le_agg, le_tup, le_ptr, le_own, le_xp, le_fn, le_opt, le_val, le_elem, le_nil_own, le_nil_vs, leH_ghost, leL_chunk, leXL_id, bnd_int, bnd_bool, bnd_val, bnd_nil, bnd_junk, bnd_vs, bnd_xp, bnd_agg, bnd_tup, bnd_ptr, bnd_own, bnd_elem, bnd_fn, bnd_iface, bnd_opt, bnd_row, bnd_rcell, bnd_imap, bnd_smp, le_row, le_rcell, le_imap, le_smp, leH1_smap, bndL_nil, bndL_cons, lenH_cons, lenH_nil, imp_self, implies_true, true_and, and_true]
    simp
  · rintro ⟨i, s⟩ ⟨hi, hgo, hs, hp0⟩
    simp only at hi hgo hs hp0
    have hS := lt64 c2 hs
    dsimp only [TK0_ct29, ofD, encK, enc1, go_sem, Option.bind, Option.map, List.append_nil, Nat.beq, List.cons_append, List.nil_append, List.append_eq, List.map_cons, List.map_nil, ite_self, reduceIte]
    simp only [true_and, and_true, imp_self, implies_true, decide_eq_true_eq, decide_eq_false_iff_not, Nat.reduceAdd, Nat.reduceLeDiff, Bool.not_not, reduceCtorEq, false_imp_iff, Bool.not_eq_true', Bool.not_eq_false', Bool.false_eq_true, and_self, forall_const, ne_eq, not_false_eq_true, Nat.reduceEqDiff, Int.toNat_natCast]
    refine ⟨fun hlt => ?_, fun hge => ?_⟩
    · have hi' : i < o.length := by omega
      obtain ⟨a, ha⟩ : ∃ a, a = o.getD i default := ⟨_, rfl⟩
      simp only [← ha]
      have hno : ∀ b : Bool, (pg && decide (0 ≤ a) && decide (a < (l.length : Int)) && b) = false → (b = false → pg = true → 0 ≤ a → a < (l.length : Int) → s.testBit a.toNat = true) → befF h0 l place o = none := fun b hb hbb => by
        by_cases hp : pg = true
        · rw [(hpt hp).2]
          refine dGo_at hi' hgo ?_
          rw [← ha]
          rw [hp, Bool.true_and] at hb
          by_cases h1 : a < 0
          · exact .inl h1
          · by_cases h2 : (l.length : Int) ≤ a
            · exact .inr (.inl h2)
            · rw [decide_eq_true (by omega : 0 ≤ a), decide_eq_true (by omega : a < (l.length : Int))] at hb
              exact .inr (.inr (hbb (by simpa using hb) hp (by omega) (by omega)))
        · exact hpf (by simpa using hp)
      refine ⟨⟨by omega, hlt⟩, fun hc => ?_, fun hc => ?_⟩
      · have hc' := hc
        simp only [Bool.and_eq_true, decide_eq_true_eq] at hc'
        obtain ⟨⟨hpg, a0⟩, a1⟩ := hc'
        have hbit : decide (bitI Bit.and IntKind.u64 (s : Int) ((maskF [a] : Nat) : Int) = 0) = !s.testBit a.toNat := by
          rw [u64_and hS (maskF_lt (small1 c2 a0 a1)), mask1]
          cases hb : s.testBit a.toNat with
          | false => exact decide_eq_true (by have := and_pow_zero.2 hb; omega)
          | true => exact decide_eq_false (fun h => by rw [and_pow_zero.1 (by omega)] at hb; cases hb)
        refine ⟨Nat.one_pos, [a], fun _ => ⟨⟨rfl, rfl, fun k hk => ?_⟩, small1 c2 a0 a1, by simp⟩, fun hb => ⟨fun _ => ?_, fun hb2 => ?_⟩, fun hb => ⟨Nat.one_pos, [a], ⟨⟨rfl, rfl, fun k hk => ?_⟩, small1 c2 a0 a1, by simp⟩, (i + 1, s ||| 2 ^ a.toNat), ⟨by omega, ?_, or_lt hs a0 a1, .inl hpg⟩, by simp only; omega, ?_⟩⟩
        · obtain rfl : k = 0 := by omega
          exact leXL_self _
        · rw [hno _ hb fun hb3 _ _ _ => by rw [hbit] at hb3; simpa using hb3] at h
          exact ans_le (h true) (by simp [expo, view, viewL, leL, le]) (fun _ => by simp [freshS, freshL])
        · rw [hb] at hb2; cases hb2
        · obtain rfl : k = 0 := by omega
          exact leXL_self _
        · rw [hbit, Bool.and_eq_true] at hb
          rw [ha]
          exact dGo_yes hi' hgo (ha ▸ a0) (ha ▸ a1) (by rw [← ha]; simpa using hb.2)
        · simp only [hb]
          rw [mask1, u64_or hS (Nat.pow_lt_pow_right (by omega) (by omega)), hpg]
          simp only [leS_mk, leL_cons, leL_nil, le_junk, le_int, le_bool, le_nil, leLL_nil, leLL_cons, leH_cons, leH_nil, leH1_box, leH1_own, leH1_gone, le_vs, le_agg, le_tup, le_ptr, le_own, le_xp, le_fn, le_opt, le_val, le_elem, le_nil_own, le_nil_vs, leH_ghost, leL_chunk, leXL_id, bnd_int, bnd_bool, bnd_val, bnd_nil, bnd_junk, bnd_vs, bnd_xp, bnd_agg, bnd_tup, bnd_ptr, bnd_own, bnd_elem, bnd_fn, bnd_iface, bnd_opt, bnd_row, bnd_rcell, bnd_imap, bnd_smp, le_row, le_rcell, le_imap, le_smp, leH1_smap, bndL_nil, bndL_cons, lenH_cons, lenH_nil, imp_self, implies_true, true_and, and_true]
          exact ⟨by omega, w_succ hi' (by omega)⟩
      · have hn := hno false (by rw [Bool.and_false]) (fun _ hp h1 h2 => by
          rw [hp, decide_eq_true h1, decide_eq_true h2] at hc; cases hc)
        rw [hn] at h
        simp only [hc]
        exact ⟨fun h => (by cases h), fun _ => ⟨fun _ => ans_le (h true) (by simp [expo, view, viewL, leL, le]) (fun _ => by simp [freshS, freshL]), fun h => (by cases h)⟩, fun h => (by cases h)⟩
    · obtain rfl : i = o.length := by omega
      rw [List.take_length] at hgo
      refine ⟨fun hp => ?_, fun hp => ?_⟩
      · rw [hpf hp] at h
        exact ans_le (h true) (by simp [expo, view, viewL, leL, le]) (fun _ => by simp [freshS, freshL])
      obtain ⟨⟨p0, p1⟩, hbf⟩ := hpt hp
      rw [hbf, hgo] at h
      have hor := dGo_rng hgo
      refine Loop.keep [1, 0, 0, 0, 8, 60, 0] Nat (fun i => [(76, .int .i64 i)]) (fun _ => []) [] (fun i => i ≤ o.length ∧ ∀ j, j < i → s &&& maskF (l.getD (o.getD j default).toNat default).af.v = maskF (l.getD (o.getD j default).toNat default).af.v) (fun i => o.length - i) ?_ ?_
      · refine ⟨0, ⟨Nat.zero_le _, fun j hj => by omega⟩, ?_⟩
        dsimp only [go_sem, Option.bind, Option.map, List.append_nil, Nat.beq, List.cons_append, List.nil_append, List.append_eq, List.map_cons, List.map_nil, ite_self, reduceIte]
        simp only [leS_mk, leL_cons, leL_nil, le_junk, le_int, le_bool, le_nil, leLL_nil, leLL_cons, leH_cons, leH_nil, leH1_box, leH1_own, leH1_gone, le_vs, le_agg, le_tup, le_ptr, le_own, le_xp, le_fn, le_opt, le_val, le_elem, le_nil_own, le_nil_vs, leH_ghost, leL_chunk, leXL_id, bnd_int, bnd_bool, bnd_val, bnd_nil, bnd_junk, bnd_vs, bnd_xp, bnd_agg, bnd_tup, bnd_ptr, bnd_own, bnd_elem, bnd_fn, bnd_iface, bnd_opt, bnd_row, bnd_rcell, bnd_imap, bnd_smp, le_row, le_rcell, le_imap, le_smp, leH1_smap, bndL_nil, bndL_cons, lenH_cons, lenH_nil, imp_self, implies_true, true_and, and_true]
        simp
      · rintro i ⟨hi, hia⟩
        dsimp only [TK0_ct29, ofD, encK, enc1, go_sem, Option.bind, Option.map, List.append_nil, Nat.beq, List.cons_append, List.nil_append, List.append_eq, List.map_cons, List.map_nil, ite_self, reduceIte]
        simp only [true_and, and_true, imp_self, implies_true, decide_eq_true_eq, decide_eq_false_iff_not, Nat.reduceAdd, Nat.reduceLeDiff, Bool.not_not, reduceCtorEq, false_imp_iff, Bool.not_eq_true', Bool.not_eq_false', Bool.false_eq_true, and_self, forall_const, ne_eq, not_false_eq_true, Nat.reduceEqDiff, Int.toNat_natCast]
        refine ⟨fun hlt => ?_, fun hge2 => ?_⟩
        · have hi' : i < o.length := by omega
          obtain ⟨a0, a1⟩ := hor i hi'
          have hm := getD_mem (by omega : (o.getD i default).toNat < l.length)
          have hS := lt64 c2 hs
          refine ⟨⟨by omega, hlt⟩, ⟨a0, a1⟩, (l.getD (o.getD i default).toNat default).af.v, ⟨⟨rfl, rfl, fun k _ => leXL_self _⟩, hsm _ hm, (hw _ hm).1⟩, fun hb => ?_, fun hb => ?_⟩
          · have : needB l s o = false := by
              unfold needB
              rw [List.all_eq_false]
              refine ⟨_, getD_mem hi', ?_⟩
              rw [u64_and hS (maskF_lt (hsm _ hm))] at hb
              simp only [decide_eq_true_eq]
              intro he; exact hb (by rw [he])
            simp only [this] at h
            exact ans_le (h true) (by simp [expo, view, viewL, leL, le]) (fun _ => by simp [freshS, freshL])
          · refine ⟨i + 1, ⟨by omega, lt_succ_all hia ?_⟩, by omega, ?_⟩
            · rw [u64_and hS (maskF_lt (hsm _ hm))] at hb
              omega
            · simp only [leS_mk, leL_cons, leL_nil, le_junk, le_int, le_bool, le_nil, leLL_nil, leLL_cons, leH_cons, leH_nil, leH1_box, leH1_own, leH1_gone, le_vs, le_agg, le_tup, le_ptr, le_own, le_xp, le_fn, le_opt, le_val, le_elem, le_nil_own, le_nil_vs, leH_ghost, leL_chunk, leXL_id, bnd_int, bnd_bool, bnd_val, bnd_nil, bnd_junk, bnd_vs, bnd_xp, bnd_agg, bnd_tup, bnd_ptr, bnd_own, bnd_elem, bnd_fn, bnd_iface, bnd_opt, bnd_row, bnd_rcell, bnd_imap, bnd_smp, le_row, le_rcell, le_imap, le_smp, leH1_smap, bndL_nil, bndL_cons, lenH_cons, lenH_nil, imp_self, implies_true, true_and, and_true]
              exact ⟨by omega, w_succ hi' (by omega)⟩
        · obtain rfl : i = o.length := by omega
          have hneed : needB l s o = true := by
            unfold needB
            rw [List.all_eq_true]
            intro x hx
            obtain ⟨j, hj, rfl⟩ := mem_getD hx
            exact decide_eq_true (hia j hj)
          simp only [hneed, if_true] at h
          refine ⟨FewC h0 l, ?_⟩
          dsimp only [TK0_ct33, fewC, feC, go_sem, Option.bind, Option.map, List.append_nil, Nat.beq, List.cons_append, List.nil_append, List.append_eq, List.map_cons, List.map_nil, ite_self, reduceIte]
          simp only [true_and, and_true, imp_self, implies_true, decide_eq_true_eq, decide_eq_false_iff_not, Nat.reduceAdd, Nat.reduceLeDiff, Bool.not_not, reduceCtorEq, false_imp_iff, Bool.not_eq_true', Bool.not_eq_false', Bool.false_eq_true, and_self, forall_const, ne_eq, not_false_eq_true, Nat.reduceEqDiff]
          have hP0 : feP h0 l s place := ⟨⟨hs, p0, p1⟩, c3, c1, c2, hw⟩
          have hl0 := leftN_le (s := s) l.length
          refine ⟨h0, l, s, ⟨⟨rfl, rfl, fun k _ => ?_⟩, ⟨rfl, rfl, fun k _ => leXL_self _⟩, rfl, rfl, hP0, by omega⟩, by decide, by decide, ?_⟩
          · exact encR_view
          refine Loop.keep [1, 17, 0, 0] (List Int × Nat × Int) (fun x => [(22, .int .i64 (Few h0 l x.2.1 x.2.2).2), (23, .own 3 0 x.1.length 1)]) (fun x => [(2, .box [.int .u64 x.2.1, .int .i64 x.2.2]), (3, .own (decide (x.1.length = 0)) 1 x.1.length (fun k => enc1 (x.1.getD k default)))]) [.gone] (fun x => x.1 ++ pathF h0 l x.2.1 x.2.2 = pathF h0 l s place ∧ feP h0 l x.2.1 x.2.2) (fun x => leftN x.2.1 l.length) ?_ ?_
          · refine ⟨([], s, place), ⟨rfl, hP0⟩, ?_⟩
            dsimp only [List.length_nil, go_sem, Option.bind, Option.map, List.append_nil, Nat.beq, List.cons_append, List.nil_append, List.append_eq, List.map_cons, List.map_nil, ite_self, reduceIte]
            simp only [leH_ghost, leS_mk, leL_cons, leL_nil, le_junk, le_int, le_bool, le_nil, leLL_nil, leLL_cons, leH_cons, leH_nil, leH1_box, leH1_own, leH1_gone, le_vs, le_agg, le_tup, le_ptr, le_own, le_xp, le_fn, le_opt, le_val, le_elem, le_nil_own, le_nil_vs, leH_ghost, leL_chunk, leXL_id, bnd_int, bnd_bool, bnd_val, bnd_nil, bnd_junk, bnd_vs, bnd_xp, bnd_agg, bnd_tup, bnd_ptr, bnd_own, bnd_elem, bnd_fn, bnd_iface, bnd_opt, bnd_row, bnd_rcell, bnd_imap, bnd_smp, le_row, le_rcell, le_imap, le_smp, leH1_smap, bndL_nil, bndL_cons, lenH_cons, lenH_nil, imp_self, implies_true, true_and, and_true]
            simp
          · rintro ⟨out, s', q⟩ ⟨hout, hP⟩
            simp only at hout hP
            dsimp only [TK0_ct29, TK0_ct33, ofD, fewC, feC, encK, enc1, go_sem, Option.bind, Option.map, List.append_nil, Nat.beq, List.cons_append, List.nil_append, List.append_eq, List.map_cons, List.map_nil, ite_self, reduceIte]
            simp only [true_and, and_true, imp_self, implies_true, decide_eq_true_eq, decide_eq_false_iff_not, Nat.reduceAdd, Nat.reduceLeDiff, Bool.not_not, reduceCtorEq, false_imp_iff, Bool.not_eq_true', Bool.not_eq_false', Bool.false_eq_true, and_self, forall_const, ne_eq, not_false_eq_true, Nat.reduceEqDiff, Int.toNat_natCast]
            refine ⟨fun hn => ?_, fun hn => ?_⟩
            · obtain ⟨n1, n2⟩ := next_may (h := h0) (l := l) (s := s') (p := q) (by omega)
              have epath := path_cons (h := h0) (l := l) (s := s') (p := q) (by omega)
              obtain ⟨⟨hs', q0, q1⟩, _⟩ := hP
              obtain ⟨a, ha⟩ : ∃ a, a = (Few h0 l s' q).2 := ⟨_, rfl⟩
              rw [← ha] at hn n1 n2 epath
              simp only [← ha]
              have hpl := good_pl c3 n1
              have hP' : feP h0 l (s' ||| 2 ^ a.toNat) (plF l a) := ⟨⟨Nat.or_lt_two_pow hs' (Nat.pow_lt_pow_right (by omega) n1), hpl⟩, c3, c1, c2, hw⟩
              have hlft := leftN_step n1 n2
              have hl1 := leftN_le (s := s' ||| 2 ^ a.toNat) l.length
              have eS : bitI .or .u64 (s' : Int) ((maskF [a] : Nat) : Int) = ((s' ||| 2 ^ a.toNat : Nat) : Int) := by
                rw [mask1, u64_or (lt64 c2 hs') (Nat.pow_lt_pow_right (by omega) (by omega))]
              have hlen : out.length ≤ 12 := by
                have := congrArg List.length hout
                rw [List.length_append] at this
                obtain ⟨_, _, _, _, hpl0⟩ := path_valid (h := h0) hsm c5 _ s place rfl
                omega
              refine ⟨Nat.one_pos, ⟨by unfold capOk; omega, fun k hk => ?_⟩, ⟨hn, by omega⟩, Nat.one_pos, [a], ⟨⟨rfl, rfl, fun k hk => ?_⟩, small1 c2 hn (by omega), by simp⟩, h0, l, s' ||| 2 ^ a.toNat, ⟨⟨rfl, rfl, fun k _ => encR_view⟩, ⟨rfl, rfl, fun k _ => leXL_self _⟩, rfl, eS, hP', by omega⟩, by decide, by decide, (out ++ [a], s' ||| 2 ^ a.toNat, plF l a), ⟨?_, hP'⟩, by simp only; omega, ?_⟩
              · obtain rfl : k = 0 := by omega
                simp [takeL, dropL, lenL, ones, one]
              · obtain rfl : k = 0 := by omega
                exact leXL_self _
              · rw [← hout, epath, List.append_assoc]; rfl
              · simp only [eS, List.length_append, List.length_cons, List.length_nil, leS_mk, leL_cons, leL_nil, le_junk, le_int, le_bool, le_nil, leLL_nil, leLL_cons, leH_cons, leH_nil, leH1_box, leH1_own, leH1_gone, le_vs, le_agg, le_tup, le_ptr, le_own, le_xp, le_fn, le_opt, le_val, le_elem, le_nil_own, le_nil_vs, leH_ghost, leL_chunk, leXL_id, bnd_int, bnd_bool, bnd_val, bnd_nil, bnd_junk, bnd_vs, bnd_xp, bnd_agg, bnd_tup, bnd_ptr, bnd_own, bnd_elem, bnd_fn, bnd_iface, bnd_opt, bnd_row, bnd_rcell, bnd_imap, bnd_smp, le_row, le_rcell, le_imap, le_smp, leH1_smap, bndL_nil, bndL_cons, lenH_cons, lenH_nil, imp_self, implies_true, true_and, and_true]
                refine ⟨⟨by omega, by omega, rfl, by omega⟩, rfl, by simp, fun k hk => ?_⟩
                by_cases hko : k < out.length
                · rw [if_pos hko]
                  simp [List.getElem?_append, hko, leL, le]
                · obtain rfl : k = out.length := by omega
                  rw [if_neg hko]
                  simp [takeL, dropL, purgeL, purge, refs, leL, le]
            · have hnil := path_nil (h := h0) (l := l) (s := s') (p := q) (by omega)
              rw [hnil, List.append_nil] at hout
              rw [← hout] at h
              refine ans_le (h (decide (out.length = 0))) ?_ (fun _ => by simp [freshS, freshL, enc1])
              dsimp only [expo, enc1, go_sem, Option.bind, Option.map, List.append_nil, Nat.beq, List.cons_append, List.nil_append, List.append_eq, List.map_cons, List.map_nil, ite_self, reduceIte]
              simp only [leS_mk, leL_cons, leL_nil, le_junk, le_int, le_bool, le_nil, leLL_nil, leLL_cons, leH_cons, leH_nil, leH1_box, leH1_own, leH1_gone, le_vs, le_agg, le_tup, le_ptr, le_own, le_xp, le_fn, le_opt, le_val, le_elem, le_nil_own, le_nil_vs, leH_ghost, leL_chunk, leXL_id, bnd_int, bnd_bool, bnd_val, bnd_nil, bnd_junk, bnd_vs, bnd_xp, bnd_agg, bnd_tup, bnd_ptr, bnd_own, bnd_elem, bnd_fn, bnd_iface, bnd_opt, bnd_row, bnd_rcell, bnd_imap, bnd_smp, le_row, le_rcell, le_imap, le_smp, leH1_smap, bndL_nil, bndL_cons, lenH_cons, lenH_nil, imp_self, implies_true, true_and, and_true]
theorem Rest_ok : RestC.ok Try.prog 18 := by
  refine contract Try.func18 v18_is TK0_ok 300 RestC fun args k h => ?_
  simp only [RestC] at h
  split at h
  · rename_i t z n sz get t' z' n' sz' get' place t'' z'' n'' sz'' get''
    obtain ⟨h0, l, o, ⟨⟨rfl, rfl, hg⟩, ⟨rfl, rfl, hg'⟩, ⟨rfl, rfl, hg''⟩, ⟨hl, hh, hw⟩, ho⟩, h⟩ := h
    exact ⟨[.agg [.vs false z h0.length 1 (fun k => encR (h0.getD k default))], .vs false z' l.length 4 (fun k => encK (l.getD k default)), .int .i64 place, .vs false z'' o.length 1 (fun k => enc1 (o.getD k default))], ⟨⟨⟨fun h => (by cases h), rfl, rfl, rfl, hg⟩, trivial⟩, ⟨fun h => (by cases h), rfl, rfl, rfl, hg'⟩, ⟨rfl, rfl⟩, ⟨fun h => (by cases h), rfl, rfl, rfl, hg''⟩, trivial⟩, Rest_run (z := z) (z' := z') (z'' := z'') hl hh hw ho h⟩
  · rename_i t z n sz get t' z' n' sz' get' place
    obtain ⟨h0, l, ⟨⟨rfl, rfl, hg⟩, ⟨rfl, rfl, hg'⟩, ⟨hl, hh, hw⟩⟩, h⟩ := h
    exact ⟨[.agg [.vs false z h0.length 1 (fun k => encR (h0.getD k default))], .vs false z' l.length 4 (fun k => encK (l.getD k default)), .int .i64 place, .vs false true ([] : List Int).length 1 (fun k => enc1 (([] : List Int).getD k default))], ⟨⟨⟨fun h => (by cases h), rfl, rfl, rfl, hg⟩, trivial⟩, ⟨fun h => (by cases h), rfl, rfl, rfl, hg'⟩, ⟨rfl, rfl⟩, ⟨rfl, rfl⟩, trivial⟩, Rest_run (z := z) (z' := z') (z'' := true) (o := []) hl hh hw (by simp) h⟩
  · exact h.1.elim
def TK1 : Env := { ct := fun n => match n with | 18 => some RestC | _ => none, fn := fun _ => none, meth := fun _ _ => none }
theorem TK1_ct18 : TK1.ct 18 = some RestC := rfl
theorem TK1_ok : EnvOk Try.prog TK1 := by
  refine ⟨fun f c h => ?_, fun f vf h => ?_, (fun _ _ _ h => by cases h), by kernel_rfl⟩
  · simp only [TK1] at h
    split at h
    · cases h; exact ⟨Rest_ok, Try.f18, Try.func18, by kernel_rfl, by kernel_rfl⟩
    · cases h
  · cases h

def PlanC : Ctr := { alias := false, of := fun l => match l with
  | [.agg [.vs _ _ n sz get], .vs _ _ n' sz' get', .int .i64 place] => .ex Hal fun h => .ex (List Wk) fun l => .pre (lsP 1 encR n sz get h ∧ lsP 4 encK n' sz' get' l ∧ ((h.length ≤ 1000000000000 ∧ l.length ≤ 1000000000000) ∧ (∀ x ∈ h, x.v.length ≤ 1000000000000) ∧ okW l)) (.all Bool fun z => .fin (.tup [.vs true z (RestF h l place []).1.length 1 (fun k => enc1 ((RestF h l place []).1.getD k default)), .int .i64 (RestF h l place []).2.1, .int .i64 (RestF h l place []).2.2]) [])
  | _ => noC }
theorem Plan_ok : PlanC.ok Try.prog 16 := by
  refine contract Try.func16 v16_is TK1_ok 300 PlanC fun args k h => ?_
  simp only [PlanC] at h
  split at h
  · rename_i t z n sz get t' z' n' sz' get' place
    obtain ⟨h0, l, ⟨⟨rfl, rfl, hg⟩, ⟨rfl, rfl, hg'⟩, ⟨hl, hh, hw⟩⟩, h⟩ := h
    have h : ∀ z : Bool, k (.tup [.vs true z (RestF h0 l place []).1.length 1 (fun k => enc1 ((RestF h0 l place []).1.getD k default)), .int .i64 (RestF h0 l place []).2.1, .int .i64 (RestF h0 l place []).2.2]) [] := h
    refine ⟨[.agg [.vs false z h0.length 1 (fun k => encR (h0.getD k default))], .vs false z' l.length 4 (fun k => encK (l.getD k default)), .int .i64 place], ⟨⟨⟨fun h => (by cases h), rfl, rfl, rfl, hg⟩, trivial⟩, ⟨fun h => (by cases h), rfl, rfl, rfl, hg'⟩, ⟨rfl, rfl⟩, trivial⟩, ?_⟩
    dsimp only [v16, TK1_ct18, RestC, encK, go_sem, Option.bind, Option.map, List.append_nil, Nat.beq, List.cons_append, List.nil_append, List.append_eq, List.map_cons, List.map_nil, ite_self, reduceIte]
    simp only [true_and, and_true, imp_self, implies_true, decide_eq_true_eq, decide_eq_false_iff_not, Nat.reduceAdd, Nat.reduceLeDiff, Bool.not_not, reduceCtorEq, false_imp_iff, Bool.not_eq_true', Bool.not_eq_false', Bool.false_eq_true, and_self, forall_const, ne_eq, not_false_eq_true, Nat.reduceEqDiff]
    refine ⟨h0, l, ⟨⟨rfl, rfl, fun k _ => leXL_self _⟩, ⟨rfl, rfl, fun k _ => leXL_self _⟩, hl, hh, hw⟩, fun z => ?_⟩
    refine ⟨by decide, by decide, by decide, ?_⟩
    refine ans_le (h z) ?_ (fun _ => by simp [freshS, freshL, enc1])
    dsimp only [expo, enc1, go_sem, Option.bind, Option.map, List.append_nil, Nat.beq, List.cons_append, List.nil_append, List.append_eq, List.map_cons, List.map_nil, ite_self, reduceIte]
    simp only [leS_mk, leL_cons, leL_nil, le_junk, le_int, le_bool, le_nil, leLL_nil, leLL_cons, leH_cons, leH_nil, leH1_box, leH1_own, leH1_gone, le_vs, le_agg, le_tup, le_ptr, le_own, le_xp, le_fn, le_opt, le_val, le_elem, le_nil_own, le_nil_vs, leH_ghost, leL_chunk, leXL_id, bnd_int, bnd_bool, bnd_val, bnd_nil, bnd_junk, bnd_vs, bnd_xp, bnd_agg, bnd_tup, bnd_ptr, bnd_own, bnd_elem, bnd_fn, bnd_iface, bnd_opt, bnd_row, bnd_rcell, bnd_imap, bnd_smp, le_row, le_rcell, le_imap, le_smp, leH1_smap, bndL_nil, bndL_cons, lenH_cons, lenH_nil, imp_self, implies_true, true_and, and_true]
  · exact h.1.elim
end Go.Proofs.Yteioilioobichaa

/- Tuning, walked: the laws' helpers. -/
/- Tuning, walked: the laws' helpers. -/
set_option linter.all false
namespace Go.Proofs.Yteioilioobichaa
open Go Go.Vx
set_option maxRecDepth 100000
set_option maxHeartbeats 4000000

def v20 : VF := { ntmps := 32, res := [.tmp 4], body :=
 (.seq (.region [u1 4 .mov [.cn (.bool false)]])
 (.seq (.seq (.region [u1 5 .mov [.cn (.int .i64 0)]])
 (.block 0 (.loop (.seq (.seq (.region [u1 6 .mov [.tm 5],
 u1 7 .mov [.tm 0],
 u1 8 .len [.tm 7],
 u1 9 (.cmp .lss) [.tm 6, .tm 8],
 u1 10 .mov [.tm 9],
 u2 11 10 true .mov [.tm 5],
 u2 12 10 true .mov [.tm 1],
 u2 13 10 true .len [.tm 12],
 u2 14 10 true (.cmp .lss) [.tm 11, .tm 13],
 u1 15 .and [.tm 10, .tm 14]])
 (.cond (.tm 15) .skip
  (.exit 0)))
 (.seq (.block 1 (.seq (.draw [] [w1 18 .mov [.tm 0],
 w1 19 .mov [.tm 5],
 w1 20 (.idxAddr 1) [.tm 18, .tm 19],
 w1 21 (.load false 1) [.tm 20],
 w1 22 .mov [.tm 1],
 w1 23 .mov [.tm 5],
 w1 24 (.idxAddr 1) [.tm 22, .tm 23],
 w1 25 (.load false 1) [.tm 24],
 w1 26 (.cmp .neq) [.tm 21, .tm 25]])
 (.cond (.tm 26) (.seq (.region [u1 4 .mov [.cn (.bool false)]])
 .ret)
  .skip)))
 (.region [u1 16 .mov [.tm 5],
 u1 17 (.ari .add) [.tm 16, .cn (.int .i64 1)],
 u1 5 .mov [.tm 17]]))))))
 (.seq (.region [u1 27 .mov [.tm 0],
 u1 28 .len [.tm 27],
 u1 29 .mov [.tm 1],
 u1 30 .len [.tm 29],
 u1 31 (.cmp .eql) [.tm 28, .tm 30],
 u1 4 .mov [.tm 31]])
 .ret))) }
theorem v20_is : vfunc Try.prog Try.f20 = some v20 := by kernel_rfl
def v15 : VF := { ntmps := 32, res := [.tmp 4], body :=
 (.seq (.region [u1 4 .mov [.cn (.bool false)]])
 (.seq (.seq (.region [u1 5 .mov [.cn (.int .i64 0)]])
 (.block 0 (.loop (.seq (.seq (.region [u1 6 .mov [.tm 5],
 u1 7 .mov [.tm 0],
 u1 8 .len [.tm 7],
 u1 9 (.cmp .lss) [.tm 6, .tm 8],
 u1 10 .mov [.tm 9],
 u2 11 10 true .mov [.tm 5],
 u2 12 10 true .mov [.tm 1],
 u2 13 10 true .len [.tm 12],
 u2 14 10 true (.cmp .lss) [.tm 11, .tm 13],
 u1 15 .and [.tm 10, .tm 14]])
 (.cond (.tm 15) .skip
  (.exit 0)))
 (.seq (.block 1 (.seq (.draw [] [w1 18 .mov [.tm 0],
 w1 19 .mov [.tm 5],
 w1 20 (.idxAddr 2) [.tm 18, .tm 19],
 w1 21 (.load true 2) [.tm 20],
 w1 22 .mov [.tm 1],
 w1 23 .mov [.tm 5],
 w1 24 (.idxAddr 2) [.tm 22, .tm 23],
 w1 25 (.load true 2) [.tm 24],
 w1 26 (.eqv true [true, true]) [.tm 21, .tm 25]])
 (.cond (.tm 26) (.seq (.region [u1 4 .mov [.cn (.bool false)]])
 .ret)
  .skip)))
 (.region [u1 16 .mov [.tm 5],
 u1 17 (.ari .add) [.tm 16, .cn (.int .i64 1)],
 u1 5 .mov [.tm 17]]))))))
 (.seq (.region [u1 27 .mov [.tm 0],
 u1 28 .len [.tm 27],
 u1 29 .mov [.tm 1],
 u1 30 .len [.tm 29],
 u1 31 (.cmp .eql) [.tm 28, .tm 30],
 u1 4 .mov [.tm 31]])
 .ret))) }
theorem v15_is : vfunc Try.prog Try.f15 = some v15 := by kernel_rfl
def v7 : VF := { ntmps := 52, res := [.tmp 4], body :=
 (.seq (.region [u1 2 .box [.tm 0],
 u1 4 .mov [.cn (.bool false)]])
 (.seq (.seq (.region [u1 7 (.fieldAddr 0) [.tm 2],
 u1 8 (.load false 1) [.tm 7],
 u1 9 .len [.tm 8],
 u1 10 (.cmp .gtr) [.tm 9, .cn (.int .i64 100)],
 u1 11 .mov [.tm 10],
 u2 12 11 false .mov [.tm 1],
 u2 13 11 false .len [.tm 12],
 u2 14 11 false (.cmp .gtr) [.tm 13, .cn (.int .i64 100)],
 u1 15 .or [.tm 11, .tm 14]])
 (.cond (.tm 15) (.seq (.region [u1 4 .mov [.cn (.bool true)]])
 .ret)
  .skip))
 (.seq (.seq (.region [u1 5 .mov [.cn (.int .i64 0)]])
 (.block 0 (.loop (.seq (.seq (.region [u1 16 .mov [.tm 5],
 u1 17 (.fieldAddr 0) [.tm 2],
 u1 18 (.load false 1) [.tm 17],
 u1 19 .len [.tm 18],
 u1 20 (.cmp .lss) [.tm 16, .tm 19]])
 (.cond (.tm 20) .skip
  (.exit 0)))
 (.seq (.block 1 (.seq (.region [u1 23 (.fieldAddr 0) [.tm 2],
 u1 24 (.load false 1) [.tm 23],
 u1 25 .mov [.tm 5],
 u1 26 (.idxAddr 1) [.tm 24, .tm 25],
 u1 27 (.load false 1) [.tm 26],
 u1 28 .len [.tm 27],
 u1 29 (.cmp .gtr) [.tm 28, .cn (.int .i64 100)]])
 (.cond (.tm 29) (.seq (.region [u1 4 .mov [.cn (.bool true)]])
 .ret)
  .skip)))
 (.region [u1 21 .mov [.tm 5],
 u1 22 (.ari .add) [.tm 21, .cn (.int .i64 1)],
 u1 5 .mov [.tm 22]]))))))
 (.seq (.seq (.region [u1 6 .mov [.cn (.int .i64 0)]])
 (.block 2 (.loop (.seq (.seq (.region [u1 30 .mov [.tm 6],
 u1 31 .mov [.tm 1],
 u1 32 .len [.tm 31],
 u1 33 (.cmp .lss) [.tm 30, .tm 32]])
 (.cond (.tm 33) .skip
  (.exit 2)))
 (.seq (.block 3 (.seq (.region [u1 36 .mov [.tm 1],
 u1 37 .mov [.tm 6],
 u1 38 (.idxAddr 4) [.tm 36, .tm 37],
 u1 39 (.fieldAddr 2) [.tm 38],
 u1 40 (.load false 1) [.tm 39],
 u1 41 .len [.tm 40],
 u1 42 (.cmp .gtr) [.tm 41, .cn (.int .i64 100)],
 u1 43 .mov [.tm 42],
 u2 44 43 false .mov [.tm 1],
 u2 45 43 false .mov [.tm 6],
 u2 46 43 false (.idxAddr 4) [.tm 44, .tm 45],
 u2 47 43 false (.fieldAddr 0) [.tm 46],
 u2 48 43 false (.load false 1) [.tm 47],
 u2 49 43 false .lenStr [.tm 48],
 u2 50 43 false (.cmp .gtr) [.tm 49, .cn (.int .i64 1000)],
 u1 51 .or [.tm 43, .tm 50]])
 (.cond (.tm 51) (.seq (.region [u1 4 .mov [.cn (.bool true)]])
 .ret)
  .skip)))
 (.region [u1 34 .mov [.tm 6],
 u1 35 (.ari .add) [.tm 34, .cn (.int .i64 1)],
 u1 6 .mov [.tm 35]]))))))
 (.seq (.region [u1 4 .mov [.cn (.bool false)]])
 .ret))))) }
theorem v7_is : vfunc Try.prog Try.f7 = some v7 := by kernel_rfl
def v22 : VF := { ntmps := 12, res := [.cell 0 true 1, .tmp 1], body :=
 (.seq (.region [u1 0 (.alloc [.nil]) [],
 u1 1 .mov [.cn .nil]])
 (.seq (.region [u1 2 (.buildSlice 1 3 [(.int .i64 0)] [(0, 1), (1, 1), (2, 1)]) [.cn (.int .i64 0), .cn (.int .i64 2), .cn (.int .i64 5)],
 u1 3 (.buildSlice 1 3 [(.int .i64 0)] [(0, 1), (1, 1), (2, 1)]) [.cn (.int .i64 2), .cn (.int .i64 0), .cn (.int .i64 1)],
 u1 4 (.buildSlice 1 3 [(.int .i64 0)] [(0, 1), (1, 1), (2, 1)]) [.cn (.int .i64 5), .cn (.int .i64 1), .cn (.int .i64 0)],
 u1 5 (.buildSlice 1 3 [.nil] [(0, 1), (1, 1), (2, 1)]) [.tm 2, .tm 3, .tm 4],
 u1 6 (.build [.nil] [(0, 1)]) [.tm 5],
 u1 7 (.build [(.val (.string ⟨#[]⟩)), (.int .i64 0), .nil, (.int .i64 0)] [(0, 1), (1, 1), (3, 1)]) [.cn (.val (.string ⟨#[103, 114, 101, 97, 116]⟩)), .cn (.int .i64 0), .cn (.int .i64 30)],
 u1 8 (.buildSlice 1 1 [(.int .i64 0)] [(0, 1)]) [.cn (.int .i64 0)],
 u1 9 (.build [(.val (.string ⟨#[]⟩)), (.int .i64 0), .nil, (.int .i64 0)] [(0, 1), (1, 1), (2, 1), (3, 1)]) [.cn (.val (.string ⟨#[115, 119, 101, 108, 108]⟩)), .cn (.int .i64 2), .tm 8, .cn (.int .i64 20)],
 u1 10 (.build [(.val (.string ⟨#[]⟩)), (.int .i64 0), .nil, (.int .i64 0)] [(0, 1), (1, 1), (3, 1)]) [.cn (.val (.string ⟨#[114, 101, 101, 100, 115]⟩)), .cn (.int .i64 1), .cn (.int .i64 10)],
 u1 11 (.buildSlice 4 3 [(.val (.string ⟨#[]⟩)), (.int .i64 0), .nil, (.int .i64 0)] [(0, 4), (4, 4), (8, 4)]) [.tm 7, .tm 9, .tm 10],
 u0 (.store 1) [.tm 0, .tm 6],
 u1 1 .mov [.tm 11]])
 .ret)) }
theorem v22_is : vfunc Try.prog Try.f22 = some v22 := by kernel_rfl

def samC : Ctr := { alias := false, of := fun l => match l with
  | [.vs _ _ n sz get, .vs _ _ n' sz' get'] => .ex (List Int) fun a => .ex (List Int) fun b => .pre (lsP 1 enc1 n sz get a ∧ lsP 1 enc1 n' sz' get' b ∧ a.length ≤ 1000000000000) (.fin (.bool (decide (a = b))) [])
  | _ => noC }
def TM0 : Env := { ct := fun _ => none, fn := fun _ => none, meth := fun _ _ => none }
theorem TM0_ok : EnvOk Try.prog TM0 := by
  refine ⟨fun f c h => ?_, fun f vf h => ?_, (fun _ _ _ h => by cases h), by kernel_rfl⟩
  · cases h
  · cases h

theorem eq_fst {α : Type} [Inhabited α] {a b : List α} (h : ∀ j, j < a.length → j < b.length → a.getD j default = b.getD j default) : (a = b) ↔ (a.length : Int) = b.length := by
  constructor
  · rintro rfl; rfl
  · intro hl
    exact list_ext (by omega) fun i hi => h i hi (by omega)
theorem sam_ok : samC.ok Try.prog 20 := by
  refine contract Try.func20 v20_is TM0_ok 200 samC fun args k h => ?_
  simp only [samC] at h
  split at h
  · rename_i t z n sz get t' z' n' sz' get'
    obtain ⟨a, b, ⟨⟨rfl, rfl, hg⟩, ⟨rfl, rfl, hg'⟩, hl⟩, h⟩ := h
    have h : k _ [] := h
    refine ⟨[.vs false z a.length 1 (fun k => enc1 (a.getD k default)), .vs false z' b.length 1 (fun k => enc1 (b.getD k default))], ⟨⟨fun h => (by cases h), rfl, rfl, rfl, hg⟩, ⟨fun h => (by cases h), rfl, rfl, rfl, hg'⟩, trivial⟩, ?_⟩
    dsimp only [v20, go_sem, Option.bind, Option.map, List.append_nil, Nat.beq, List.cons_append, List.nil_append, List.append_eq, List.map_cons, List.map_nil, ite_self, reduceIte]
    simp only [true_and, and_true, imp_self, implies_true, decide_eq_true_eq, decide_eq_false_iff_not, Nat.reduceAdd, Nat.reduceLeDiff, Bool.not_not, reduceCtorEq, false_imp_iff, Bool.not_eq_true', Bool.not_eq_false', Bool.false_eq_true, and_self, forall_const, ne_eq, not_false_eq_true, Nat.reduceEqDiff]
    refine Loop.keep [0, 0] Nat (fun i => [(4, .bool false), (5, .int .i64 i)]) (fun _ => []) [] (fun i => i ≤ a.length ∧ i ≤ b.length ∧ ∀ j, j < i → a.getD j default = b.getD j default) (fun i => a.length - i) ?_ ?_
    · refine ⟨0, ⟨Nat.zero_le _, Nat.zero_le _, fun j hj => by omega⟩, ?_⟩
      dsimp only [go_sem, Option.bind, Option.map, List.append_nil, Nat.beq, List.cons_append, List.nil_append, List.append_eq, List.map_cons, List.map_nil, ite_self, reduceIte]
      simp only [leS_mk, leL_cons, leL_nil, le_junk, le_int, le_bool, le_nil, leLL_nil, leLL_cons, leH_cons, leH_nil, leH1_box, leH1_own, leH1_gone, le_vs, le_agg, le_tup, le_ptr, le_own, le_xp, le_fn, le_opt, le_val, le_elem, le_nil_own, le_nil_vs, leH_ghost, leL_chunk, leXL_id, bnd_int, bnd_bool, bnd_val, bnd_nil, bnd_junk, bnd_vs, bnd_xp, bnd_agg, bnd_tup, bnd_ptr, bnd_own, bnd_elem, bnd_fn, bnd_iface, bnd_opt, bnd_row, bnd_rcell, bnd_imap, bnd_smp, le_row, le_rcell, le_imap, le_smp, leH1_smap, bndL_nil, bndL_cons, lenH_cons, lenH_nil, imp_self, implies_true, true_and, and_true]
      simp
    · rintro i ⟨hi, hi2, hia⟩
      dsimp only [enc1, go_sem, Option.bind, Option.map, List.append_nil, Nat.beq, List.cons_append, List.nil_append, List.append_eq, List.map_cons, List.map_nil, ite_self, reduceIte]
      simp only [true_and, and_true, imp_self, implies_true, decide_eq_true_eq, decide_eq_false_iff_not, Nat.reduceAdd, Nat.reduceLeDiff, Bool.not_not, reduceCtorEq, false_imp_iff, Bool.not_eq_true', Bool.not_eq_false', Bool.false_eq_true, and_self, forall_const, ne_eq, not_false_eq_true, Nat.reduceEqDiff, Int.toNat_natCast]
      refine ⟨fun hc => ?_, fun hc => ?_⟩
      · rw [Bool.and_eq_true, decide_eq_true_eq, decide_eq_true_eq] at hc
        refine ⟨⟨by omega, hc.1⟩, ⟨by omega, hc.2⟩, fun hn => ?_, fun he => ?_⟩
        · rw [decide_eq_false (fun e => hn (by rw [e]))] at h
          exact ans_bool h
        · refine ⟨i + 1, ⟨by omega, by omega, lt_succ_all hia he⟩, by omega, ?_⟩
          simp only [leS_mk, leL_cons, leL_nil, le_junk, le_int, le_bool, le_nil, leLL_nil, leLL_cons, leH_cons, leH_nil, leH1_box, leH1_own, leH1_gone, le_vs, le_agg, le_tup, le_ptr, le_own, le_xp, le_fn, le_opt, le_val, le_elem, le_nil_own, le_nil_vs, leH_ghost, leL_chunk, leXL_id, bnd_int, bnd_bool, bnd_val, bnd_nil, bnd_junk, bnd_vs, bnd_xp, bnd_agg, bnd_tup, bnd_ptr, bnd_own, bnd_elem, bnd_fn, bnd_iface, bnd_opt, bnd_row, bnd_rcell, bnd_imap, bnd_smp, le_row, le_rcell, le_imap, le_smp, leH1_smap, bndL_nil, bndL_cons, lenH_cons, lenH_nil, imp_self, implies_true, true_and, and_true]
          exact w_succ (by omega : i < a.length) (by omega)
      · rw [Bool.and_eq_false_iff, decide_eq_false_iff_not, decide_eq_false_iff_not] at hc
        rw [decide_eq_decide.2 (eq_fst fun j hj hj2 => hia j (by omega))] at h
        exact ans_bool h
  · exact h.1.elim
def enc0 (x : Int) : List SV := [.int .i64 0, .int .i64 x]
def sivC : Ctr := { alias := false, of := fun l => match l with
  | [.vs _ _ n sz get, .vs _ _ n' sz' get'] => .ex (List Int) fun a => .ex (List Int) fun b => .pre (lsP 2 enc0 n sz get a ∧ lsP 2 enc0 n' sz' get' b ∧ a.length ≤ 1000000000000) (.fin (.bool (decide (a = b))) [])
  | _ => noC }
theorem siv_ok : sivC.ok Try.prog 15 := by
  refine contract Try.func15 v15_is TM0_ok 200 sivC fun args k h => ?_
  simp only [sivC] at h
  split at h
  · rename_i t z n sz get t' z' n' sz' get'
    obtain ⟨a, b, ⟨⟨rfl, rfl, hg⟩, ⟨rfl, rfl, hg'⟩, hl⟩, h⟩ := h
    have h : k _ [] := h
    refine ⟨[.vs false z a.length 2 (fun k => enc0 (a.getD k default)), .vs false z' b.length 2 (fun k => enc0 (b.getD k default))], ⟨⟨fun h => (by cases h), rfl, rfl, rfl, hg⟩, ⟨fun h => (by cases h), rfl, rfl, rfl, hg'⟩, trivial⟩, ?_⟩
    dsimp only [v15, go_sem, Option.bind, Option.map, List.append_nil, Nat.beq, List.cons_append, List.nil_append, List.append_eq, List.map_cons, List.map_nil, ite_self, reduceIte]
    simp only [true_and, and_true, imp_self, implies_true, decide_eq_true_eq, decide_eq_false_iff_not, Nat.reduceAdd, Nat.reduceLeDiff, Bool.not_not, reduceCtorEq, false_imp_iff, Bool.not_eq_true', Bool.not_eq_false', Bool.false_eq_true, and_self, forall_const, ne_eq, not_false_eq_true, Nat.reduceEqDiff]
    refine Loop.keep [0, 0] Nat (fun i => [(4, .bool false), (5, .int .i64 i)]) (fun _ => []) [] (fun i => i ≤ a.length ∧ i ≤ b.length ∧ ∀ j, j < i → a.getD j default = b.getD j default) (fun i => a.length - i) ?_ ?_
    · refine ⟨0, ⟨Nat.zero_le _, Nat.zero_le _, fun j hj => by omega⟩, ?_⟩
      dsimp only [go_sem, Option.bind, Option.map, List.append_nil, Nat.beq, List.cons_append, List.nil_append, List.append_eq, List.map_cons, List.map_nil, ite_self, reduceIte]
      simp only [leS_mk, leL_cons, leL_nil, le_junk, le_int, le_bool, le_nil, leLL_nil, leLL_cons, leH_cons, leH_nil, leH1_box, leH1_own, leH1_gone, le_vs, le_agg, le_tup, le_ptr, le_own, le_xp, le_fn, le_opt, le_val, le_elem, le_nil_own, le_nil_vs, leH_ghost, leL_chunk, leXL_id, bnd_int, bnd_bool, bnd_val, bnd_nil, bnd_junk, bnd_vs, bnd_xp, bnd_agg, bnd_tup, bnd_ptr, bnd_own, bnd_elem, bnd_fn, bnd_iface, bnd_opt, bnd_row, bnd_rcell, bnd_imap, bnd_smp, le_row, le_rcell, le_imap, le_smp, leH1_smap, bndL_nil, bndL_cons, lenH_cons, lenH_nil, imp_self, implies_true, true_and, and_true]
      simp
    · rintro i ⟨hi, hi2, hia⟩
      dsimp only [enc0, go_sem, Option.bind, Option.map, List.append_nil, Nat.beq, List.cons_append, List.nil_append, List.append_eq, List.map_cons, List.map_nil, ite_self, reduceIte]
      simp only [true_and, and_true, imp_self, implies_true, decide_eq_true_eq, decide_eq_false_iff_not, Nat.reduceAdd, Nat.reduceLeDiff, Bool.not_not, reduceCtorEq, false_imp_iff, Bool.not_eq_true', Bool.not_eq_false', Bool.false_eq_true, and_self, forall_const, ne_eq, not_false_eq_true, Nat.reduceEqDiff, Int.toNat_natCast]
      refine ⟨fun hc => ?_, fun hc => ?_⟩
      · rw [Bool.and_eq_true, decide_eq_true_eq, decide_eq_true_eq] at hc
        refine ⟨⟨by omega, hc.1⟩, ⟨by omega, hc.2⟩, fun hn => ?_, fun he => ?_⟩
        · rw [decide_eq_false (fun e => by rw [e] at hn; simp at hn)] at h
          exact ans_bool h
        · refine ⟨i + 1, ⟨by omega, by omega, lt_succ_all hia (by simpa using he)⟩, by omega, ?_⟩
          simp only [leS_mk, leL_cons, leL_nil, le_junk, le_int, le_bool, le_nil, leLL_nil, leLL_cons, leH_cons, leH_nil, leH1_box, leH1_own, leH1_gone, le_vs, le_agg, le_tup, le_ptr, le_own, le_xp, le_fn, le_opt, le_val, le_elem, le_nil_own, le_nil_vs, leH_ghost, leL_chunk, leXL_id, bnd_int, bnd_bool, bnd_val, bnd_nil, bnd_junk, bnd_vs, bnd_xp, bnd_agg, bnd_tup, bnd_ptr, bnd_own, bnd_elem, bnd_fn, bnd_iface, bnd_opt, bnd_row, bnd_rcell, bnd_imap, bnd_smp, le_row, le_rcell, le_imap, le_smp, leH1_smap, bndL_nil, bndL_cons, lenH_cons, lenH_nil, imp_self, implies_true, true_and, and_true]
          exact w_succ (by omega : i < a.length) (by omega)
      · rw [Bool.and_eq_false_iff, decide_eq_false_iff_not, decide_eq_false_iff_not] at hc
        rw [decide_eq_decide.2 (eq_fst fun j hj hj2 => hia j (by omega))] at h
        exact ans_bool h
  · exact h.1.elim
def longW (x : Wk) : Bool := decide (100 < (x.af.v.length : Int)) || decide (1000 < (x.nm.size : Int))
def farF (h : Hal) (l : List Wk) : Bool := decide (100 < (h.length : Int)) || decide (100 < (l.length : Int)) || h.any (fun x => decide (100 < (x.v.length : Int))) || l.any longW
def farC : Ctr := { alias := false, of := fun l => match l with
  | [.agg [.vs _ _ n sz get], .vs _ _ n' sz' get'] => .ex Hal fun h => .ex (List Wk) fun l => .pre (lsP 1 encR n sz get h ∧ lsP 4 encK n' sz' get' l) (.fin (.bool (farF h l)) [])
  | _ => noC }
theorem any_no {α : Type} [Inhabited α] {l : List α} {f : α → Bool} (h : ∀ j, j < l.length → f (l.getD j default) = false) : l.any f = false := by
  rw [List.any_eq_false]
  intro x hx
  obtain ⟨j, hj, rfl⟩ := mem_getD hx
  rw [h j hj]; simp
theorem any_yes {α : Type} [Inhabited α] {l : List α} {f : α → Bool} {j : Nat} (hj : j < l.length) (h : f (l.getD j default) = true) : l.any f = true :=
  List.any_eq_true.2 ⟨_, getD_mem hj, h⟩
theorem far_ok : farC.ok Try.prog 7 := by
  refine contract Try.func7 v7_is TM0_ok 300 farC fun args k h => ?_
  simp only [farC] at h
  split at h
  · rename_i t z n sz get t' z' n' sz' get'
    obtain ⟨h0, l, ⟨⟨rfl, rfl, hg⟩, ⟨rfl, rfl, hg'⟩⟩, h⟩ := h
    have h : k _ [] := h
    refine ⟨[.agg [.vs false z h0.length 1 (fun k => encR (h0.getD k default))], .vs false z' l.length 4 (fun k => encK (l.getD k default))], ⟨⟨⟨fun h => (by cases h), rfl, rfl, rfl, hg⟩, trivial⟩, ⟨fun h => (by cases h), rfl, rfl, rfl, hg'⟩, trivial⟩, ?_⟩
    dsimp only [v7, go_sem, Option.bind, Option.map, List.append_nil, Nat.beq, List.cons_append, List.nil_append, List.append_eq, List.map_cons, List.map_nil, ite_self, reduceIte]
    simp only [true_and, and_true, imp_self, implies_true, decide_eq_true_eq, decide_eq_false_iff_not, Nat.reduceAdd, Nat.reduceLeDiff, Bool.not_not, reduceCtorEq, false_imp_iff, Bool.not_eq_true', Bool.not_eq_false', Bool.false_eq_true, and_self, forall_const, ne_eq, not_false_eq_true, Nat.reduceEqDiff]
    refine ⟨fun hc => ?_, fun hc => ?_⟩
    · unfold farF at h
      rw [hc, Bool.true_or, Bool.true_or] at h
      exact ans_bool h
    have hc' := hc
    simp only [Bool.or_eq_false_iff, decide_eq_false_iff_not] at hc'
    refine Loop.keep [1, 0] Nat (fun i => [(4, .bool false), (5, .int .i64 i)]) (fun _ => []) [] (fun i => i ≤ h0.length ∧ ∀ j, j < i → ¬ (100 < ((h0.getD j default).v.length : Int))) (fun i => h0.length - i) ?_ ?_
    · refine ⟨0, ⟨Nat.zero_le _, fun j hj => by omega⟩, ?_⟩
      dsimp only [go_sem, Option.bind, Option.map, List.append_nil, Nat.beq, List.cons_append, List.nil_append, List.append_eq, List.map_cons, List.map_nil, ite_self, reduceIte]
      simp only [leS_mk, leL_cons, leL_nil, le_junk, le_int, le_bool, le_nil, leLL_nil, leLL_cons, leH_cons, leH_nil, leH1_box, leH1_own, leH1_gone, le_vs, le_agg, le_tup, le_ptr, le_own, le_xp, le_fn, le_opt, le_val, le_elem, le_nil_own, le_nil_vs, leH_ghost, leL_chunk, leXL_id, bnd_int, bnd_bool, bnd_val, bnd_nil, bnd_junk, bnd_vs, bnd_xp, bnd_agg, bnd_tup, bnd_ptr, bnd_own, bnd_elem, bnd_fn, bnd_iface, bnd_opt, bnd_row, bnd_rcell, bnd_imap, bnd_smp, le_row, le_rcell, le_imap, le_smp, leH1_smap, bndL_nil, bndL_cons, lenH_cons, lenH_nil, imp_self, implies_true, true_and, and_true]
      simp
    · rintro i ⟨hi, hia⟩
      dsimp only [encR, encK, enc1, go_sem, Option.bind, Option.map, List.append_nil, Nat.beq, List.cons_append, List.nil_append, List.append_eq, List.map_cons, List.map_nil, ite_self, reduceIte]
      simp only [true_and, and_true, imp_self, implies_true, decide_eq_true_eq, decide_eq_false_iff_not, Nat.reduceAdd, Nat.reduceLeDiff, Bool.not_not, reduceCtorEq, false_imp_iff, Bool.not_eq_true', Bool.not_eq_false', Bool.false_eq_true, and_self, forall_const, ne_eq, not_false_eq_true, Nat.reduceEqDiff, Int.toNat_natCast]
      refine ⟨fun hlt => ⟨⟨by omega, hlt⟩, fun hb => ?_, fun hb => ?_⟩, fun hge => ?_⟩
      · unfold farF at h
        rw [any_yes (l := h0) (j := i) (f := fun x => decide (100 < (x.v.length : Int))) (by omega) (decide_eq_true hb), Bool.or_true, Bool.true_or] at h
        exact ans_bool h
      · refine ⟨i + 1, ⟨by omega, fun j hj => by
          rcases Nat.lt_or_ge j i with h' | h'
          · exact hia j h'
          · obtain rfl : j = i := by omega
            exact hb⟩, by omega, ?_⟩
        simp only [leS_mk, leL_cons, leL_nil, le_junk, le_int, le_bool, le_nil, leLL_nil, leLL_cons, leH_cons, leH_nil, leH1_box, leH1_own, leH1_gone, le_vs, le_agg, le_tup, le_ptr, le_own, le_xp, le_fn, le_opt, le_val, le_elem, le_nil_own, le_nil_vs, leH_ghost, leL_chunk, leXL_id, bnd_int, bnd_bool, bnd_val, bnd_nil, bnd_junk, bnd_vs, bnd_xp, bnd_agg, bnd_tup, bnd_ptr, bnd_own, bnd_elem, bnd_fn, bnd_iface, bnd_opt, bnd_row, bnd_rcell, bnd_imap, bnd_smp, le_row, le_rcell, le_imap, le_smp, leH1_smap, bndL_nil, bndL_cons, lenH_cons, lenH_nil, imp_self, implies_true, true_and, and_true]
        exact ⟨by omega, w_succ (by omega : i < h0.length) (by omega)⟩
      · obtain rfl : i = h0.length := by omega
        refine Loop.keep [1, 0] Nat (fun i => [(4, .bool false), (6, .int .i64 i)]) (fun _ => []) [] (fun i => i ≤ l.length ∧ ∀ j, j < i → longW (l.getD j default) = false) (fun i => l.length - i) ?_ ?_
        · refine ⟨0, ⟨Nat.zero_le _, fun j hj => by omega⟩, ?_⟩
          dsimp only [go_sem, Option.bind, Option.map, List.append_nil, Nat.beq, List.cons_append, List.nil_append, List.append_eq, List.map_cons, List.map_nil, ite_self, reduceIte]
          simp only [leS_mk, leL_cons, leL_nil, le_junk, le_int, le_bool, le_nil, leLL_nil, leLL_cons, leH_cons, leH_nil, leH1_box, leH1_own, leH1_gone, le_vs, le_agg, le_tup, le_ptr, le_own, le_xp, le_fn, le_opt, le_val, le_elem, le_nil_own, le_nil_vs, leH_ghost, leL_chunk, leXL_id, bnd_int, bnd_bool, bnd_val, bnd_nil, bnd_junk, bnd_vs, bnd_xp, bnd_agg, bnd_tup, bnd_ptr, bnd_own, bnd_elem, bnd_fn, bnd_iface, bnd_opt, bnd_row, bnd_rcell, bnd_imap, bnd_smp, le_row, le_rcell, le_imap, le_smp, leH1_smap, bndL_nil, bndL_cons, lenH_cons, lenH_nil, imp_self, implies_true, true_and, and_true]
          simp
        · rintro i ⟨hi, hib⟩
          dsimp only [encR, encK, enc1, go_sem, Option.bind, Option.map, List.append_nil, Nat.beq, List.cons_append, List.nil_append, List.append_eq, List.map_cons, List.map_nil, ite_self, reduceIte]
          simp only [true_and, and_true, imp_self, implies_true, decide_eq_true_eq, decide_eq_false_iff_not, Nat.reduceAdd, Nat.reduceLeDiff, Bool.not_not, reduceCtorEq, false_imp_iff, Bool.not_eq_true', Bool.not_eq_false', Bool.false_eq_true, and_self, forall_const, ne_eq, not_false_eq_true, Nat.reduceEqDiff, Int.toNat_natCast]
          refine ⟨fun hlt => ⟨⟨by omega, hlt⟩, fun _ => ⟨by omega, hlt⟩, fun hb => ?_, fun hb => ?_⟩, fun hge => ?_⟩
          · unfold farF at h
            rw [any_yes (l := l) (j := i) (f := longW) (by omega) hb, Bool.or_true] at h
            exact ans_bool h
          · refine ⟨i + 1, ⟨by omega, lt_succ_all hib hb⟩, by omega, ?_⟩
            simp only [leS_mk, leL_cons, leL_nil, le_junk, le_int, le_bool, le_nil, leLL_nil, leLL_cons, leH_cons, leH_nil, leH1_box, leH1_own, leH1_gone, le_vs, le_agg, le_tup, le_ptr, le_own, le_xp, le_fn, le_opt, le_val, le_elem, le_nil_own, le_nil_vs, leH_ghost, leL_chunk, leXL_id, bnd_int, bnd_bool, bnd_val, bnd_nil, bnd_junk, bnd_vs, bnd_xp, bnd_agg, bnd_tup, bnd_ptr, bnd_own, bnd_elem, bnd_fn, bnd_iface, bnd_opt, bnd_row, bnd_rcell, bnd_imap, bnd_smp, le_row, le_rcell, le_imap, le_smp, leH1_smap, bndL_nil, bndL_cons, lenH_cons, lenH_nil, imp_self, implies_true, true_and, and_true]
            exact ⟨by omega, w_succ (by omega : i < l.length) (by omega)⟩
          · obtain rfl : i = l.length := by omega
            have e1 : h0.any (fun x => decide (100 < (x.v.length : Int))) = false := any_no fun j hj => decide_eq_false (hia j hj)
            unfold farF at h
            rw [hc, e1, any_no hib] at h
            exact ans_bool h
  · exact h.1.elim

def exH : Hal := [⟨false, [0, 2, 5]⟩, ⟨false, [2, 0, 1]⟩, ⟨false, [5, 1, 0]⟩]
def exW : List Wk := [⟨⟨#[103, 114, 101, 97, 116]⟩, 0, ⟨true, []⟩, 30⟩, ⟨⟨#[115, 119, 101, 108, 108]⟩, 2, ⟨false, [0]⟩, 20⟩, ⟨⟨#[114, 101, 101, 100, 115]⟩, 1, ⟨true, []⟩, 10⟩]
def encRT (x : Rw) : List SV := [.vs true x.z x.v.length 1 (fun k => enc1 (x.v.getD k default))]
def encKT (x : Wk) : List SV := [.val (.string x.nm), .int .i64 x.pl, .vs true x.af.z x.af.v.length 1 (fun k => enc1 (x.af.v.getD k default)), .int .i64 x.mi]
def exC : Ctr := { alias := false, of := fun l => match l with
  | [] => .fin (.tup [.agg [.vs true false 3 1 (fun k => encRT (exH.getD k default))], .vs true false 3 4 (fun k => encKT (exW.getD k default))]) []
  | _ => noC }
theorem ex_ok : exC.ok Try.prog 22 := by
  refine contract Try.func22 v22_is TM0_ok 200 exC fun args k h => ?_
  simp only [exC] at h
  split at h
  · have h : k _ [] := h
    refine ⟨[], trivial, ?_⟩
    dsimp only [v22, go_sem, Option.bind, Option.map, List.append_nil, Nat.beq, List.cons_append, List.nil_append, List.append_eq, List.map_cons, List.map_nil, ite_self, reduceIte]
    simp only [true_and, and_true, imp_self, implies_true, decide_eq_true_eq, decide_eq_false_iff_not, Nat.reduceAdd, Nat.reduceLeDiff, Bool.not_not, reduceCtorEq, false_imp_iff, Bool.not_eq_true', Bool.not_eq_false', Bool.false_eq_true, and_self, forall_const, ne_eq, not_false_eq_true, Nat.reduceEqDiff]
    refine ⟨by decide, by decide, by decide, by decide, rfl, by decide, rfl, rfl, ⟨⟨rfl, rfl, rfl⟩, by decide⟩, ans_le h ?_ (fun _ => by simp [freshS, freshL, encRT, encKT, enc1])⟩
    dsimp only [expo, go_sem, Option.bind, Option.map, List.append_nil, Nat.beq, List.cons_append, List.nil_append, List.append_eq, List.map_cons, List.map_nil, ite_self, reduceIte]
    simp only [leS_mk, leL_cons, leL_nil, le_junk, le_int, le_bool, le_nil, leLL_nil, leLL_cons, leH_cons, leH_nil, leH1_box, leH1_own, leH1_gone, le_vs, le_agg, le_tup, le_ptr, le_own, le_xp, le_fn, le_opt, le_val, le_elem, le_nil_own, le_nil_vs, leH_ghost, leL_chunk, leXL_id, bnd_int, bnd_bool, bnd_val, bnd_nil, bnd_junk, bnd_vs, bnd_xp, bnd_agg, bnd_tup, bnd_ptr, bnd_own, bnd_elem, bnd_fn, bnd_iface, bnd_opt, bnd_row, bnd_rcell, bnd_imap, bnd_smp, le_row, le_rcell, le_imap, le_smp, leH1_smap, bndL_nil, bndL_cons, lenH_cons, lenH_nil, imp_self, implies_true, true_and, and_true]
    refine ⟨fun k hk => ?_, fun k hk => ?_⟩
    · rcases k with _ | _ | _ | k
      · simp [encRT, exH, enc1, takeL, dropL, viewL, view, getH, leXL, leX, chunk]
        intro k hk
        rcases k with _ | _ | _ | k <;> first | omega | skip
        all_goals simp [addLo, takeL, dropL, viewL, view, leXL, leX]
      · simp [encRT, exH, enc1, takeL, dropL, viewL, view, getH, leXL, leX, chunk]
        intro k hk
        rcases k with _ | _ | _ | k <;> first | omega | skip
        all_goals simp [addLo, takeL, dropL, viewL, view, leXL, leX]
      · simp [encRT, exH, enc1, takeL, dropL, viewL, view, getH, leXL, leX, chunk]
        intro k hk
        rcases k with _ | _ | _ | k <;> first | omega | skip
        all_goals simp [addLo, takeL, dropL, viewL, view, leXL, leX]
      · omega
    · rcases k with _ | _ | _ | k
      · simp [encKT, exW, enc1, addLo, takeL, dropL, viewL, view, getH, leXL, leX, chunk]
      · simp [encKT, exW, enc1, addLo, takeL, dropL, viewL, view, getH, leXL, leX, chunk]
      · simp [encKT, exW, enc1, addLo, takeL, dropL, viewL, view, getH, leXL, leX, chunk]
      · omega
  · exact h.1.elim
end Go.Proofs.Yteioilioobichaa

/- Tuning, walked: the document's example. -/
/- Tuning, walked: the document's example. -/
set_option linter.all false
namespace Go.Proofs.Yteioilioobichaa
open Go Go.Vx
set_option maxRecDepth 100000
set_option maxHeartbeats 4000000

def v8 : VF := { ntmps := 124, res := [.tmp 0], body :=
 (.seq (.region [u1 0 .mov [.cn (.bool false)]])
 (.seq (.region [u1 19 (.call 22) [],
 u1 18 .mov [.tm 19],
 u1 20 (.ext 0) [.tm 18],
 u1 21 (.ext 1) [.tm 18],
 u1 1 (.alloc [.nil]) [],
 u0 (.store 1) [.tm 1, .tm 20],
 u1 2 .mov [.tm 21]])
 (.seq (.region [u1 23 (.load true 1) [.tm 1],
 u1 24 .mov [.tm 2],
 u1 25 (.call 16) [.tm 23, .tm 24, .cn (.int .i64 0)],
 u1 22 .mov [.tm 25],
 u1 26 (.ext 0) [.tm 22],
 u1 27 (.ext 1) [.tm 22],
 u1 28 (.ext 2) [.tm 22],
 u1 3 .mov [.tm 26],
 u1 4 .mov [.tm 27],
 u1 5 .mov [.tm 28]])
 (.seq (.region [u1 30 (.load true 1) [.tm 1],
 u1 31 .mov [.tm 2],
 u1 32 (.call 16) [.tm 30, .tm 31, .cn (.int .i64 1)],
 u1 29 .mov [.tm 32],
 u1 33 (.ext 0) [.tm 29],
 u1 34 (.ext 1) [.tm 29],
 u1 35 (.ext 2) [.tm 29],
 u1 6 .mov [.tm 33],
 u1 7 .mov [.tm 34],
 u1 8 .mov [.tm 35]])
 (.seq (.region [u1 37 (.load true 1) [.tm 1],
 u1 38 .mov [.tm 2],
 u1 39 (.buildSlice 1 3 [(.int .i64 0)] [(0, 1), (1, 1), (2, 1)]) [.cn (.int .i64 0), .cn (.int .i64 1), .cn (.int .i64 2)],
 u1 40 (.call 9) [.tm 37, .tm 38, .cn (.int .i64 0), .tm 39],
 u1 36 .mov [.tm 40],
 u1 41 (.ext 0) [.tm 36],
 u1 42 (.ext 1) [.tm 36],
 u1 9 .mov [.tm 41],
 u1 10 .mov [.tm 42]])
 (.seq (.region [u1 44 (.load true 1) [.tm 1],
 u1 45 .mov [.tm 2],
 u1 46 (.buildSlice 1 3 [(.int .i64 0)] [(0, 1), (1, 1), (2, 1)]) [.cn (.int .i64 1), .cn (.int .i64 0), .cn (.int .i64 2)],
 u1 47 (.call 9) [.tm 44, .tm 45, .cn (.int .i64 0), .tm 46],
 u1 43 .mov [.tm 47],
 u1 48 (.ext 0) [.tm 43],
 u1 49 (.ext 1) [.tm 43],
 u1 11 .mov [.tm 48],
 u1 12 .mov [.tm 49]])
 (.seq (.region [u1 51 (.load true 1) [.tm 1],
 u1 52 .mov [.tm 2],
 u1 53 (.buildSlice 1 1 [(.int .i64 0)] [(0, 1)]) [.cn (.int .i64 0)],
 u1 54 (.call 18) [.tm 51, .tm 52, .cn (.int .i64 0), .tm 53],
 u1 50 .mov [.tm 54],
 u1 55 (.ext 0) [.tm 50],
 u1 56 (.ext 1) [.tm 50],
 u1 57 (.ext 2) [.tm 50],
 u1 13 .mov [.tm 55],
 u1 14 .mov [.tm 56],
 u1 15 .mov [.tm 57]])
 (.seq (.region [u1 59 (.load true 1) [.tm 1],
 u1 60 .mov [.tm 2],
 u1 61 (.buildSlice 1 3 [(.int .i64 0)] [(0, 1), (1, 1), (2, 1)]) [.cn (.int .i64 0), .cn (.int .i64 2), .cn (.int .i64 1)],
 u1 62 (.call 11) [.tm 59, .tm 60, .tm 61, .cn (.int .i64 10)],
 u1 58 .mov [.tm 62],
 u1 63 (.ext 0) [.tm 58],
 u1 64 (.ext 1) [.tm 58],
 u1 16 .mov [.tm 63],
 u1 17 .mov [.tm 64]])
 (.seq (.seq (.region [u1 65 .mov [.tm 5],
 u1 66 (.cmp .neq) [.tm 65, .cn (.int .i64 0)],
 u1 67 .mov [.tm 66],
 u2 68 67 false .mov [.tm 8],
 u2 69 67 false (.cmp .neq) [.tm 68, .cn (.int .i64 0)],
 u1 70 .or [.tm 67, .tm 69],
 u1 71 .mov [.tm 70],
 u2 72 71 false .mov [.tm 10],
 u2 73 71 false (.cmp .neq) [.tm 72, .cn (.int .i64 0)],
 u1 74 .or [.tm 71, .tm 73],
 u1 75 .mov [.tm 74],
 u2 76 75 false .mov [.tm 12],
 u2 77 75 false (.cmp .neq) [.tm 76, .cn (.int .i64 4)],
 u1 78 .or [.tm 75, .tm 77],
 u1 79 .mov [.tm 78],
 u2 80 79 false .mov [.tm 15],
 u2 81 79 false (.cmp .neq) [.tm 80, .cn (.int .i64 0)],
 u1 82 .or [.tm 79, .tm 81],
 u1 83 .mov [.tm 82],
 u2 84 83 false .mov [.tm 17],
 u2 85 83 false (.cmp .neq) [.tm 84, .cn (.int .i64 0)],
 u1 86 .or [.tm 83, .tm 85],
 u1 87 .mov [.tm 86],
 u2 88 87 false .mov [.tm 4],
 u2 89 87 false (.cmp .neq) [.tm 88, .cn (.int .i64 3)],
 u1 90 .or [.tm 87, .tm 89],
 u1 91 .mov [.tm 90],
 u2 92 91 false .mov [.tm 7],
 u2 93 91 false (.cmp .neq) [.tm 92, .cn (.int .i64 5)],
 u1 94 .or [.tm 91, .tm 93],
 u1 95 .mov [.tm 94],
 u2 96 95 false .mov [.tm 9],
 u2 97 95 false (.cmp .neq) [.tm 96, .cn (.int .i64 6)],
 u1 98 .or [.tm 95, .tm 97],
 u1 99 .mov [.tm 98],
 u2 100 99 false .mov [.tm 14],
 u2 101 99 false (.cmp .neq) [.tm 100, .cn (.int .i64 3)],
 u1 102 .or [.tm 99, .tm 101]])
 (.cond (.tm 102) (.seq (.region [u1 0 .mov [.cn (.bool false)]])
 .ret)
  .skip))
 (.seq (.region [u1 103 .mov [.tm 3],
 u1 104 (.buildSlice 1 3 [(.int .i64 0)] [(0, 1), (1, 1), (2, 1)]) [.cn (.int .i64 0), .cn (.int .i64 2), .cn (.int .i64 1)],
 u1 105 (.call 20) [.tm 103, .tm 104],
 u1 106 .mov [.tm 105],
 u2 107 106 true .mov [.tm 6],
 u2 108 106 true (.buildSlice 1 3 [(.int .i64 0)] [(0, 1), (1, 1), (2, 1)]) [.cn (.int .i64 0), .cn (.int .i64 2), .cn (.int .i64 1)],
 u2 109 106 true (.call 20) [.tm 107, .tm 108],
 u1 110 .and [.tm 106, .tm 109],
 u1 111 .mov [.tm 110],
 u2 112 111 true .mov [.tm 13],
 u2 113 111 true (.buildSlice 1 2 [(.int .i64 0)] [(0, 1), (1, 1)]) [.cn (.int .i64 2), .cn (.int .i64 1)],
 u2 114 111 true (.call 20) [.tm 112, .tm 113],
 u1 115 .and [.tm 111, .tm 114],
 u1 116 .mov [.tm 115],
 u2 117 116 true .mov [.tm 16],
 u2 118 116 true (.build [(.int .i64 0), (.int .i64 0)] [(1, 1)]) [.cn (.int .i64 300)],
 u2 119 116 true (.build [(.int .i64 0), (.int .i64 0)] []) [],
 u2 120 116 true (.build [(.int .i64 0), (.int .i64 0)] [(1, 1)]) [.cn (.int .i64 200)],
 u2 121 116 true (.buildSlice 2 3 [(.int .i64 0), (.int .i64 0)] [(0, 2), (2, 2), (4, 2)]) [.tm 118, .tm 119, .tm 120],
 u2 122 116 true (.call 15) [.tm 117, .tm 121],
 u1 123 .and [.tm 116, .tm 122],
 u1 0 .mov [.tm 123]])
 .ret)))))))))) }
theorem v8_is : vfunc Try.prog Try.f8 = some v8 := by kernel_rfl

theorem exR1 : RestF exH exW 0 [] = ([0, 2, 1], 3, 0) := by decide +kernel
theorem exR2 : RestF exH exW 1 [] = ([0, 2, 1], 5, 0) := by decide +kernel
theorem exR3 : RestF exH exW 0 [0] = ([2, 1], 3, 0) := by decide +kernel
theorem exM1 : MovF exH exW 0 [0, 1, 2] = (6, 0) := by decide +kernel
theorem exM2 : MovF exH exW 0 [1, 0, 2] = (0, 4) := by decide +kernel
theorem exD1 : DriF exH exW 10 [0, 2, 1] = ([300, 0, 200], 0) := by decide +kernel
def TN0 : Env := { ct := fun n => match n with | 22 => some exC | 16 => some PlanC | 9 => some MovC | 18 => some RestC | 11 => some DriC | 20 => some samC | 15 => some sivC | _ => none, fn := fun _ => none, meth := fun _ _ => none }
theorem TN0_ct22 : TN0.ct 22 = some exC := rfl
theorem TN0_ct16 : TN0.ct 16 = some PlanC := rfl
theorem TN0_ct9 : TN0.ct 9 = some MovC := rfl
theorem TN0_ct18 : TN0.ct 18 = some RestC := rfl
theorem TN0_ct11 : TN0.ct 11 = some DriC := rfl
theorem TN0_ct20 : TN0.ct 20 = some samC := rfl
theorem TN0_ct15 : TN0.ct 15 = some sivC := rfl
theorem TN0_ok : EnvOk Try.prog TN0 := by
  refine ⟨fun f c h => ?_, fun f vf h => ?_, (fun _ _ _ h => by cases h), by kernel_rfl⟩
  · simp only [TN0] at h
    split at h
    · cases h; exact ⟨ex_ok, Try.f22, Try.func22, by kernel_rfl, by kernel_rfl⟩
    · cases h; exact ⟨Plan_ok, Try.f16, Try.func16, by kernel_rfl, by kernel_rfl⟩
    · cases h; exact ⟨Mov_ok, Try.f9, Try.func9, by kernel_rfl, by kernel_rfl⟩
    · cases h; exact ⟨Rest_ok, Try.f18, Try.func18, by kernel_rfl, by kernel_rfl⟩
    · cases h; exact ⟨Dri_ok, Try.f11, Try.func11, by kernel_rfl, by kernel_rfl⟩
    · cases h; exact ⟨sam_ok, Try.f20, Try.func20, by kernel_rfl, by kernel_rfl⟩
    · cases h; exact ⟨siv_ok, Try.f15, Try.func15, by kernel_rfl, by kernel_rfl⟩
    · cases h
  · cases h

theorem shown_ok : trueC.ok Try.prog 8 := by
  refine contract Try.func8 v8_is TN0_ok 400 trueC fun args k h => ?_
  simp only [trueC] at h
  split at h
  · have h : k (.bool true) [] := h
    refine ⟨[], trivial, ?_⟩
    dsimp only [v8, TN0_ct22, TN0_ct16, TN0_ct9, TN0_ct18, TN0_ct11, TN0_ct20, TN0_ct15, exC, PlanC, MovC, RestC, DriC, samC, sivC, go_sem, Option.bind, Option.map, List.append_nil, Nat.beq, List.cons_append, List.nil_append, List.append_eq, List.map_cons, List.map_nil, ite_self, reduceIte]
    simp only [true_and, and_true, imp_self, implies_true, decide_eq_true_eq, decide_eq_false_iff_not, Nat.reduceAdd, Nat.reduceLeDiff, Bool.not_not, reduceCtorEq, false_imp_iff, Bool.not_eq_true', Bool.not_eq_false', Bool.false_eq_true, and_self, forall_const, ne_eq, not_false_eq_true, Nat.reduceEqDiff]
    have kH : ∀ (hp : List HO) (j : List SV → List SV), lsP 1 encR 3 1 (fun k => viewL false hp j (encRT (exH.getD k default))) exH := fun hp j => ⟨rfl, rfl, fun k _ => by simp [encRT, encR, enc1, viewL, view, leXL, leX, andT]⟩
    have kW : ∀ (hp : List HO) (j : List SV → List SV), lsP 4 encK 3 4 (fun k => viewL false hp j (encKT (exW.getD k default))) exW := fun hp j => ⟨rfl, rfl, fun k _ => by simp [encKT, encK, enc1, viewL, view, leXL, leX, andT]⟩
    have kB : (exH.length ≤ 1000000000000 ∧ exW.length ≤ 1000000000000) ∧ (∀ x, x ∈ exH → x.v.length ≤ 1000000000000) ∧ okW exW := ⟨by decide, by decide, by unfold okW; decide⟩
    have k3 : ∀ (hp : List HO) (j : List SV → List SV) (a b c : Int), lsP 1 enc1 3 1 (fun k => viewL false hp j (takeL 1 (dropL (k * 1) [SV.int IntKind.i64 a, SV.int IntKind.i64 b, SV.int IntKind.i64 c]))) [a, b, c] := fun hp j a b c => ⟨rfl, rfl, fun k hk => by
      rcases k with _ | _ | _ | k
      · simp [enc1, takeL, dropL, viewL, view, leXL, leX]
      · simp [enc1, takeL, dropL, viewL, view, leXL, leX]
      · simp [enc1, takeL, dropL, viewL, view, leXL, leX]
      · omega⟩
    have k1 : ∀ (hp : List HO) (j : List SV → List SV) (a : Int), lsP 1 enc1 1 1 (fun k => viewL false hp j (takeL 1 (dropL (k * 1) [SV.int IntKind.i64 a]))) [a] := fun hp j a => ⟨rfl, rfl, fun k hk => by
      rcases k with _ | k
      · simp [enc1, takeL, dropL, viewL, view, leXL, leX]
      · omega⟩
    refine ⟨by decide, by decide, exH, exW, ⟨kH _ _, kW _ _, kB⟩, fun z1 => ⟨by decide, by decide, by decide, exH, exW, ⟨kH _ _, kW _ _, kB⟩, fun z2 => ⟨by decide, by decide, by decide, Nat.one_pos, exH, exW, [0, 1, 2], ⟨kH _ _, kW _ _, k3 _ _ _ _ _, kB, by decide⟩, by decide, by decide, Nat.one_pos, exH, exW, [1, 0, 2], ⟨kH _ _, kW _ _, k3 _ _ _ _ _, kB, by decide⟩, by decide, by decide, Nat.one_pos, exH, exW, [0], ⟨kH _ _, kW _ _, k1 _ _ _, kB, by decide⟩, fun z3 => ?_⟩⟩⟩
    refine ⟨by decide, by decide, by decide, Nat.one_pos, exH, exW, [0, 2, 1], ⟨kH _ _, kW _ _, k3 _ _ _ _ _, kB, by decide⟩, fun z4 => ?_⟩
    simp only [exR1, exR2, exR3, exM1, exM2, exD1]
    have kV : ∀ (hp : List HO) (j : List SV → List SV) (L : List Int), lsP 1 enc1 L.length 1 (fun k => viewL false hp j (enc1 (L.getD k default))) L := fun hp j L => ⟨rfl, rfl, fun k _ => by simp [enc1, viewL, view, leXL, leX]⟩
    have k2 : ∀ (hp : List HO) (j : List SV → List SV) (a b : Int), lsP 1 enc1 2 1 (fun k => viewL false hp j (takeL 1 (dropL (k * 1) [SV.int IntKind.i64 a, SV.int IntKind.i64 b]))) [a, b] := fun hp j a b => ⟨rfl, rfl, fun k hk => by
      rcases k with _ | _ | k
      · simp [enc1, takeL, dropL, viewL, view, leXL, leX]
      · simp [enc1, takeL, dropL, viewL, view, leXL, leX]
      · omega⟩
    refine ⟨by decide, by decide, fun hb => (by simp at hb), fun _ => ⟨Nat.one_pos, [0, 2, 1], [0, 2, 1], ⟨kV _ _ _, k3 _ _ _ _ _, by decide⟩, fun _ => ⟨Nat.one_pos, [0, 2, 1], [0, 2, 1], fun _ => ⟨kV _ _ _, k3 _ _ _ _ _, by decide⟩, fun _ => ⟨Nat.one_pos, [2, 1], [2, 1], fun _ => ⟨kV _ _ _, k2 _ _ _ _, by decide⟩, fun _ => ⟨by decide, [300, 0, 200], [300, 0, 200], fun _ => ⟨⟨rfl, rfl, fun k hk => ?_⟩, ⟨rfl, rfl, fun k hk => ?_⟩, by decide⟩, ans_bool (by simpa using h)⟩, fun hb => (by simp at hb)⟩, fun hb => (by simp at hb)⟩, fun hb => (by simp at hb)⟩⟩
    · exact leXL_self _
    · rcases k with _ | _ | _ | k
      · simp [enc0, takeL, dropL, viewL, view, leXL, leX]
      · simp [enc0, takeL, dropL, viewL, view, leXL, leX]
      · simp [enc0, takeL, dropL, viewL, view, leXL, leX]
      · exact absurd hk (by omega)
  · exact h.1.elim
end Go.Proofs.Yteioilioobichaa

/- Tuning: the laws, walked. -/
/- Tuning: the laws, walked. -/
set_option linter.all false
namespace Go.Proofs.Yteioilioobichaa
open Go Go.Vx
set_option maxRecDepth 100000
set_option maxHeartbeats 4000000

def v3 : VF := { ntmps := 105, res := [.tmp 2], body :=
 (.seq (.region [u1 1 .box [.tm 0],
 u1 2 .mov [.cn (.bool false)]])
 (.seq (.seq (.region [u1 11 (.fieldAddr 0) [.tm 1],
 u1 12 (.load true 1) [.tm 11],
 u1 13 (.fieldAddr 1) [.tm 1],
 u1 14 (.load false 1) [.tm 13],
 u1 15 (.call 7) [.tm 12, .tm 14],
 u1 16 .mov [.tm 15],
 u2 17 16 false (.fieldAddr 3) [.tm 1],
 u2 18 16 false (.load false 1) [.tm 17],
 u2 19 16 false .len [.tm 18],
 u2 20 16 false (.cmp .gtr) [.tm 19, .cn (.int .i64 100)],
 u1 21 .or [.tm 16, .tm 20]])
 (.cond (.tm 21) (.seq (.region [u1 22 (.call 8) [],
 u1 2 .mov [.tm 22]])
 .ret)
  .skip))
 (.seq (.region [u1 24 (.fieldAddr 0) [.tm 1],
 u1 25 (.load true 1) [.tm 24],
 u1 26 (.fieldAddr 1) [.tm 1],
 u1 27 (.load false 1) [.tm 26],
 u1 28 (.fieldAddr 2) [.tm 1],
 u1 29 (.load false 1) [.tm 28],
 u1 30 (.fieldAddr 3) [.tm 1],
 u1 31 (.load false 1) [.tm 30],
 u1 32 (.call 9) [.tm 25, .tm 27, .tm 29, .tm 31],
 u1 23 .mov [.tm 32],
 u1 33 (.ext 0) [.tm 23],
 u1 34 (.ext 1) [.tm 23],
 u1 3 .mov [.tm 33],
 u1 4 .mov [.tm 34]])
 (.seq (.region [u1 36 (.fieldAddr 0) [.tm 1],
 u1 37 (.load true 1) [.tm 36],
 u1 38 (.fieldAddr 1) [.tm 1],
 u1 39 (.load false 1) [.tm 38],
 u1 40 (.fieldAddr 2) [.tm 1],
 u1 41 (.load false 1) [.tm 40],
 u1 42 (.fieldAddr 3) [.tm 1],
 u1 43 (.load false 1) [.tm 42],
 u1 44 (.call 10) [.tm 37, .tm 39, .tm 41, .tm 43],
 u1 35 .mov [.tm 44],
 u1 45 (.ext 0) [.tm 35],
 u1 46 (.ext 1) [.tm 35],
 u1 5 .mov [.tm 45],
 u1 6 .mov [.tm 46]])
 (.seq (.region [u1 48 (.fieldAddr 0) [.tm 1],
 u1 49 (.load true 1) [.tm 48],
 u1 50 (.fieldAddr 1) [.tm 1],
 u1 51 (.load false 1) [.tm 50],
 u1 52 (.fieldAddr 3) [.tm 1],
 u1 53 (.load false 1) [.tm 52],
 u1 54 (.fieldAddr 4) [.tm 1],
 u1 55 (.load false 1) [.tm 54],
 u1 56 (.call 11) [.tm 49, .tm 51, .tm 53, .tm 55],
 u1 47 .mov [.tm 56],
 u1 57 (.ext 0) [.tm 47],
 u1 58 (.ext 1) [.tm 47],
 u1 7 .mov [.tm 57],
 u1 8 .mov [.tm 58]])
 (.seq (.region [u1 60 (.fieldAddr 0) [.tm 1],
 u1 61 (.load true 1) [.tm 60],
 u1 62 (.fieldAddr 1) [.tm 1],
 u1 63 (.load false 1) [.tm 62],
 u1 64 (.fieldAddr 3) [.tm 1],
 u1 65 (.load false 1) [.tm 64],
 u1 66 (.fieldAddr 4) [.tm 1],
 u1 67 (.load false 1) [.tm 66],
 u1 68 (.call 12) [.tm 61, .tm 63, .tm 65, .tm 67],
 u1 59 .mov [.tm 68],
 u1 69 (.ext 0) [.tm 59],
 u1 70 (.ext 1) [.tm 59],
 u1 9 .mov [.tm 69],
 u1 10 .mov [.tm 70]])
 (.seq (.draw [] [w1 71 (.fieldAddr 0) [.tm 1],
 w1 72 (.load true 1) [.tm 71],
 w1 73 (.fieldAddr 1) [.tm 1],
 w1 74 (.load false 1) [.tm 73],
 w1 76 (.fieldAddr 0) [.tm 1],
 w1 77 (.load true 1) [.tm 76],
 w1 78 (.fieldAddr 1) [.tm 1],
 w1 79 (.load false 1) [.tm 78],
 w1 75 (.call 13) [.tm 72, .tm 74],
 w1 80 (.call 14) [.tm 77, .tm 79],
 w1 81 (.cmp .eql) [.tm 75, .tm 80],
 w1 82 .mov [.tm 81],
 ⟨u2 83 82 true .mov [.tm 3], []⟩,
 ⟨u2 84 82 true .mov [.tm 5], []⟩,
 ⟨u2 85 82 true (.cmp .eql) [.tm 83, .tm 84], []⟩,
 w1 86 .and [.tm 82, .tm 85],
 w1 87 .mov [.tm 86],
 ⟨u2 88 87 true .mov [.tm 4], []⟩,
 ⟨u2 89 87 true .mov [.tm 6], []⟩,
 ⟨u2 90 87 true (.cmp .eql) [.tm 88, .tm 89], []⟩,
 w1 91 .and [.tm 87, .tm 90],
 w1 92 .mov [.tm 91],
 ⟨u2 93 92 true .mov [.tm 7], []⟩,
 ⟨u2 94 92 true .mov [.tm 9], []⟩,
 ⟨u2 95 92 true (.call 15) [.tm 93, .tm 94], []⟩,
 w1 96 .and [.tm 92, .tm 95],
 w1 97 .mov [.tm 96],
 ⟨u2 98 97 true .mov [.tm 8], []⟩,
 ⟨u2 99 97 true .mov [.tm 10], []⟩,
 ⟨u2 100 97 true (.cmp .eql) [.tm 98, .tm 99], []⟩,
 w1 101 .and [.tm 97, .tm 100],
 w1 102 .mov [.tm 101],
 ⟨u2 103 102 true (.call 8) [], []⟩,
 w1 104 .and [.tm 102, .tm 103],
 w1 2 .mov [.tm 104]])
 .ret))))))) }
theorem v3_is : vfunc Try.prog Try.f3 = some v3 := by kernel_rfl

def shRw : List Sh := [.slice [.int .i64]]
def shWk : List Sh := [.str, .int .i64, .slice [.int .i64], .int .i64]
def shSe : List Sh := [.slice shRw, .slice shWk, .int .i64, .slice [.int .i64], .int .i64]
theorem i_of {c : List SV} (h : okSL [.int .i64] c) : ∃ p : Int, c = enc1 p := by
  obtain ⟨_, _, rfl, ⟨n1, rfl, _⟩, e1⟩ := okSL_cons_inv h
  cases okSL_nil_inv e1
  exact ⟨n1, rfl⟩
theorem is_of {v : SV} (h : okS (.slice [.int .i64]) v) : ∃ (z : Bool) (l : List Int), l.length ≤ maxLen ∧ leX v (.vs false z l.length 1 (fun k => enc1 (l.getD k default))) :=
  slice_of (fun c hc => let ⟨p, h⟩ := i_of hc; ⟨p, by rw [h]; exact leXL_self _⟩) h
theorem rw_of {c : List SV} (h : okSL shRw c) : ∃ x : Rw, leXL c (encR x) := by
  obtain ⟨_, _, rfl, h1, e1⟩ := okSL_cons_inv h
  cases okSL_nil_inv e1
  obtain ⟨z, l, _, hl⟩ := is_of h1
  exact ⟨⟨z, l⟩, hl, trivial⟩
theorem wk_of {c : List SV} (h : okSL shWk c) : ∃ x : Wk, leXL c (encK x) := by
  obtain ⟨_, _, rfl, ⟨b, rfl, _⟩, e1⟩ := okSL_cons_inv h
  obtain ⟨_, _, rfl, ⟨n2, rfl, _⟩, e2⟩ := okSL_cons_inv e1
  obtain ⟨_, _, rfl, h3, e3⟩ := okSL_cons_inv e2
  obtain ⟨_, _, rfl, ⟨n4, rfl, _⟩, e4⟩ := okSL_cons_inv e3
  cases okSL_nil_inv e4
  obtain ⟨z, l, _, hl⟩ := is_of h3
  exact ⟨⟨b, n2, ⟨z, l⟩, n4⟩, by simp [leX], ⟨rfl, rfl⟩, hl, ⟨rfl, rfl⟩, trivial⟩
theorem rws_of {v : SV} (h : okS (.slice shRw) v) : ∃ (z : Bool) (l : Hal), l.length ≤ maxLen ∧ leX v (.vs false z l.length 1 (fun k => encR (l.getD k default))) := slice_of (fun c hc => rw_of hc) h
theorem wks_of {v : SV} (h : okS (.slice shWk) v) : ∃ (z : Bool) (l : List Wk), l.length ≤ maxLen ∧ leX v (.vs false z l.length 4 (fun k => encK (l.getD k default))) := slice_of (fun c hc => wk_of hc) h
def encSe (zh zl zo : Bool) (h : Hal) (l : List Wk) (p : Int) (o : List Int) (r : Int) : List SV := [.vs false zh h.length 1 (fun k => encR (h.getD k default)), .vs false zl l.length 4 (fun k => encK (l.getD k default)), .int .i64 p, .vs false zo o.length 1 (fun k => enc1 (o.getD k default)), .int .i64 r]
theorem se_of {c : List SV} (h : okSL shSe c) : ∃ (zh zl zo : Bool) (h : Hal) (l : List Wk) (p : Int) (o : List Int) (r : Int), leXL c (encSe zh zl zo h l p o r) := by
  obtain ⟨_, _, rfl, h1, e1⟩ := okSL_cons_inv h
  obtain ⟨_, _, rfl, h2, e2⟩ := okSL_cons_inv e1
  obtain ⟨_, _, rfl, ⟨p, rfl, _⟩, e3⟩ := okSL_cons_inv e2
  obtain ⟨_, _, rfl, h4, e4⟩ := okSL_cons_inv e3
  obtain ⟨_, _, rfl, ⟨r, rfl, _⟩, e5⟩ := okSL_cons_inv e4
  cases okSL_nil_inv e5
  obtain ⟨zh, h, _, g1⟩ := rws_of h1
  obtain ⟨zl, l, _, g2⟩ := wks_of h2
  obtain ⟨zo, o, _, g3⟩ := is_of h4
  exact ⟨zh, zl, zo, h, l, p, o, r, g1, g2, ⟨rfl, rfl⟩, g3, ⟨rfl, rfl⟩, trivial⟩
theorem far_no {h : Hal} {l : List Wk} (hf : farF h l = false) : (h.length ≤ 1000000000000 ∧ l.length ≤ 1000000000000) ∧ (∀ x ∈ h, x.v.length ≤ 1000000000000) ∧ okW l := by
  unfold farF at hf
  simp only [Bool.or_eq_false_iff, decide_eq_false_iff_not] at hf
  obtain ⟨⟨⟨h1, h2⟩, h3⟩, h4⟩ := hf
  rw [List.any_eq_false] at h3 h4
  refine ⟨⟨by omega, by omega⟩, fun x hx => ?_, fun x hx => ?_⟩
  · have := h3 x hx
    simp only [decide_eq_true_eq] at this
    omega
  · have := h4 x hx
    unfold longW at this
    simp only [Bool.or_eq_true, decide_eq_true_eq] at this
    omega
theorem vH (hp : List HO) (j : List SV → List SV) (h : Hal) : lsP 1 encR h.length 1 (fun k => viewL false hp j (encR (h.getD k default))) h := ⟨rfl, rfl, fun k _ => by simp [encR, enc1, viewL, view, leXL, leX, andT]⟩
theorem vW (hp : List HO) (j : List SV → List SV) (h : List Wk) : lsP 4 encK h.length 4 (fun k => viewL false hp j (encK (h.getD k default))) h := ⟨rfl, rfl, fun k _ => by simp [encK, enc1, viewL, view, leXL, leX, andT]⟩
theorem vO (hp : List HO) (j : List SV → List SV) (L : List Int) : lsP 1 enc1 L.length 1 (fun k => viewL false hp j (enc1 (L.getD k default))) L := ⟨rfl, rfl, fun k _ => by simp [enc1, viewL, view, leXL, leX]⟩
theorem dri_len {h : Hal} {l : List Wk} {r : Int} {o : List Int} : (DriF h l r o).1.length ≤ l.length := by
  unfold DriF
  split
  · simp
  · split
    · simp
    · split
      · simp [drF, drRow_len]
      · simp
def lawC0 : List PSh := [⟨true, shSe⟩]
def TO0 : Env := { ct := fun n => match n with | 7 => some farC | 8 => some trueC | 9 => some MovC | 10 => some MovC | 11 => some DriC | 12 => some DriC | 13 => some chkC | 14 => some chkC | 15 => some sivC | _ => none, fn := fun _ => none, meth := fun _ _ => none }
theorem TO0_ct7 : TO0.ct 7 = some farC := rfl
theorem TO0_ct8 : TO0.ct 8 = some trueC := rfl
theorem TO0_ct9 : TO0.ct 9 = some MovC := rfl
theorem TO0_ct10 : TO0.ct 10 = some MovC := rfl
theorem TO0_ct11 : TO0.ct 11 = some DriC := rfl
theorem TO0_ct12 : TO0.ct 12 = some DriC := rfl
theorem TO0_ct13 : TO0.ct 13 = some chkC := rfl
theorem TO0_ct14 : TO0.ct 14 = some chkC := rfl
theorem TO0_ct15 : TO0.ct 15 = some sivC := rfl
theorem TO0_ok : EnvOk Try.prog TO0 := by
  refine ⟨fun f c h => ?_, fun f vf h => ?_, (fun _ _ _ h => by cases h), by kernel_rfl⟩
  · simp only [TO0] at h
    split at h
    · cases h; exact ⟨far_ok, Try.f7, Try.func7, by kernel_rfl, by kernel_rfl⟩
    · cases h; exact ⟨shown_ok, Try.f8, Try.func8, by kernel_rfl, by kernel_rfl⟩
    · cases h; exact ⟨Mov_ok, Try.f9, Try.func9, by kernel_rfl, by kernel_rfl⟩
    · cases h; exact ⟨rMov_ok, Try.f10, Try.func10, by kernel_rfl, by kernel_rfl⟩
    · cases h; exact ⟨Dri_ok, Try.f11, Try.func11, by kernel_rfl, by kernel_rfl⟩
    · cases h; exact ⟨rDri_ok, Try.f12, Try.func12, by kernel_rfl, by kernel_rfl⟩
    · cases h; exact ⟨chk_ok, Try.f13, Try.func13, by kernel_rfl, by kernel_rfl⟩
    · cases h; exact ⟨rchk_ok, Try.f14, Try.func14, by kernel_rfl, by kernel_rfl⟩
    · cases h; exact ⟨siv_ok, Try.f15, Try.func15, by kernel_rfl, by kernel_rfl⟩
    · cases h
  · cases h

theorem lawChecks : (lawC lawC0).ok Try.prog 3 := by
  refine contract Try.func3 v3_is TO0_ok 800 (lawC lawC0) fun args k h => ?_
  obtain ⟨ha, hk⟩ := h
  obtain ⟨_, _, rfl, h1, e1⟩ := okPL_cons_inv ha
  obtain ⟨cs, rfl, hcs⟩ := okP_agg_inv h1
  cases okPL_nil_inv e1
  obtain ⟨zh, zl, zo, h0, l, p, o, r, hle⟩ := se_of hcs
  have hk : k (.bool true) [] := hk
  refine ⟨[.agg (encSe zh zl zo h0 l p o r)], ⟨leXL_le _ _ hle (by simp only [encSe, bndL_cons, bndL_nil, bnd_vs, bnd_int, and_self]), trivial⟩, ?_⟩
  dsimp only [v3, encSe, TO0_ct7, TO0_ct8, TO0_ct9, TO0_ct10, TO0_ct11, TO0_ct12, TO0_ct13, TO0_ct14, TO0_ct15, farC, trueC, MovC, DriC, chkC, sivC, go_sem, Option.bind, Option.map, List.append_nil, Nat.beq, List.cons_append, List.nil_append, List.append_eq, List.map_cons, List.map_nil, ite_self, reduceIte]
  simp only [true_and, and_true, imp_self, implies_true, decide_eq_true_eq, decide_eq_false_iff_not, Nat.reduceAdd, Nat.reduceLeDiff, Bool.not_not, reduceCtorEq, false_imp_iff, Bool.not_eq_true', Bool.not_eq_false', Bool.false_eq_true, and_self, forall_const, ne_eq, not_false_eq_true, Nat.reduceEqDiff]
  refine ⟨h0, l, ⟨vH _ _ _, vW _ _ _⟩, fun _ => ans_bool hk, fun hb => ?_⟩
  rw [Bool.or_eq_false_iff, decide_eq_false_iff_not] at hb
  have kB := far_no hb.1
  have hol : o.length ≤ 1000000000000 := by omega
  refine ⟨h0, l, o, ⟨vH _ _ _, vW _ _ _, vO _ _ _, kB, hol⟩, by decide, by decide, h0, l, o, ⟨vH _ _ _, vW _ _ _, vO _ _ _, kB, hol⟩, by decide, by decide, h0, l, o, ⟨vH _ _ _, vW _ _ _, vO _ _ _, kB, hol⟩, by decide, by decide, h0, l, o, ⟨vH _ _ _, vW _ _ _, vO _ _ _, kB, hol⟩, by decide, by decide, h0, l, ⟨vH _ _ _, vW _ _ _, kB⟩, h0, l, ⟨vH _ _ _, vW _ _ _, kB⟩, (DriF h0 l r o).1, (DriF h0 l r o).1, fun _ => ⟨⟨rfl, rfl, fun k _ => leXL_self _⟩, ⟨rfl, rfl, fun k _ => leXL_self _⟩, by have := dri_len (h := h0) (l := l) (r := r) (o := o); omega⟩, ?_⟩
  exact ans_bool (by simpa using hk)
end Go.Proofs.Yteioilioobichaa

/- Tuning, in plain Lean: what the laws need of best orders. -/
/- Tuning, in plain Lean: what the laws need of best orders. -/
set_option linter.all false
namespace Go.Proofs.Yteioilioobichaa
open Go Go.Vx

end Go.Proofs.Yteioilioobichaa

/- Tuning: the law of the fewest moves, walked. -/
/- Tuning: the law of the fewest moves, walked. -/
set_option linter.all false
namespace Go.Proofs.Yteioilioobichaa
open Go Go.Vx
set_option maxRecDepth 100000
set_option maxHeartbeats 4000000

end Go.Proofs.Yteioilioobichaa

/- Tuning, in plain Lean: when some works are done; with a work less to wait for. -/
/- Tuning, in plain Lean: when some works are done; with a work less to wait for. -/
set_option linter.all false
namespace Go.Proofs.Yteioilioobichaa
open Go Go.Vx

/-! ### One less to wait for -/

structure Less (l l' : List Wk) : Prop where
  len : l'.length = l.length
  nm : ∀ j, (l'.getD j default).nm = (l.getD j default).nm
  pl : ∀ j, (l'.getD j default).pl = (l.getD j default).pl
  mi : ∀ j, (l'.getD j default).mi = (l.getD j default).mi
  af : ∀ j, (l'.getD j default).af.v = (l.getD j default).af.v ∨ (l'.getD j default).af.v = (l.getD j default).af.v.tail
end Go.Proofs.Yteioilioobichaa

/- Tuning: the law of what is left, walked. -/
/- Tuning: the law of what is left, walked. -/
set_option linter.all false
namespace Go.Proofs.Yteioilioobichaa
open Go Go.Vx
set_option maxRecDepth 100000
set_option maxHeartbeats 4000000

theorem subLo_eq {n i : Nat} : subLo n i = n - i := by
  cases i <;> simp [subLo]
theorem addLo_eq {k i : Nat} : addLo i k = i + k := by
  cases i <;> simp [addLo]
end Go.Proofs.Yteioilioobichaa

/- Laws, as they are given, without a condition. -/
/- Laws, as they are given, without a condition. -/
set_option linter.all false
namespace Go.Proofs.Yteioilioobichaa
open Go Go.Vx Go.RowKit
set_option maxRecDepth 100000

theorem ownX1 : ownKnob Try.prog.godebug = none := by kernel_rfl
theorem laidX1 : laidOutB Try.prog = true := by kernel_rfl

theorem tuningChecks_lifted (os : Os) (started : os.Started) (H : Type) (enc : TypeId × Value → H) :
    ReturnsInHanded {} Try.checked os 3 .any (Rows.tuningChecksSpec.pre6 enc Try.prog Try.f3 Rows.tuningChecksRow.domain false) (Rows.tuningChecksSpec.post enc Try.prog Try.f3 false true false false) :=
  law_lifted (C := Try.checked) (tb := 4) ownX1 started (by kernel_rfl) Try.func3 laidX1
    (ChangeSpec.witness6 (enc := enc) (C := Try.checked) false ⟨#[], #[.agg #[.slice none 0 0, .slice none 0 0, .int .i64 0, .slice none 0 0, .int .i64 0]], []⟩ 8 (by kernel_rfl) (by kernel_rfl) (by kernel_rfl) (by kernel_rfl))
    (by kernel_rfl) (by kernel_rfl) (by kernel_rfl) (by kernel_rfl) rfl (fun ds h => match ds, h with | [_], _ => ⟨rfl, rfl, rfl⟩) lawChecks

theorem tuningChecks_holds : Rows.TuningChecksSaid :=
  OpenClaim.holds_of_wide 3 Try.f3 rfl rfl rfl rfl rfl rfl rfl ⟨rfl, rfl, rfl, rfl, rfl⟩ rfl rfl rfl rfl rfl (by kernel_rfl) Try.func3 (by kernel_rfl)
    (of_decide_eq_true (by kernel_rfl)) (by unfold Func.isWrapper; first | (rw [if_pos (by decide +kernel)]; kernel_rfl) | (rw [if_neg (by decide +kernel)]; exact ⟨rfl, rfl⟩))
    (fun os started H enc _ => tuningChecks_lifted os started H enc)

end Go.Proofs.Yteioilioobichaa

