/- Signs of the program, walked: base. -/
import Derived.Test.YtijadllhfgajlaaMgX2d
set_option linter.all false
namespace Go.Proofs.Ytijadllhfgajlaa
open Go Go.Vx
set_option maxRecDepth 100000
set_option maxHeartbeats 4000000
def v58 : VF := { ntmps := 73, res := [.tmp 2], body :=
 (.seq (.region [u1 2 .mov [.cn .nil]])
 (.seq (.region [u1 3 .mov [.cn .nil]])
 (.seq (.seq (.region [u1 11 .mov [.tm 0],
 u1 12 .len [.tm 11],
 u1 13 .mov [.cn (.int .i64 0)]])
 (.block 0 (.loop (.seq (.region [u1 14 (.cmp .lss) [.tm 13, .tm 12]])
 (.seq (.cond (.tm 14) .skip
  (.exit 0))
 (.seq (.block 1 (.seq (.region [u1 15 (.idxAddr 2) [.tm 11, .tm 13],
 u1 16 (.load true 2) [.tm 15],
 u1 5 (.alloc [(.int .i64 0), (.int .i64 0)]) [],
 u0 (.store 2) [.tm 5, .tm 16]])
 (.scope (.seq (.region [u1 17 (.fieldAddr 0) [.tm 5],
 u1 18 (.load false 1) [.tm 17],
 u1 19 (.buildSlice 1 1 [(.int .i64 0)] [(0, 1)]) [.tm 18],
 u1 6 .mov [.tm 19]])
 (.seq .skip
 (.block 2 (.loop (.seq (.seq (.region [u1 20 .mov [.tm 6],
 u1 21 .len [.tm 20],
 u1 22 (.cmp .gtr) [.tm 21, .cn (.int .i64 0)]])
 (.cond (.tm 22) .skip
  (.exit 2)))
 (.block 3 (.seq (.region [u1 23 .mov [.tm 6],
 u1 24 .mov [.tm 6],
 u1 25 .len [.tm 24],
 u1 26 (.ari .sub) [.tm 25, .cn (.int .i64 1)],
 u1 27 (.idxAddr 1) [.tm 23, .tm 26],
 u1 28 (.load false 1) [.tm 27],
 u1 7 .mov [.tm 28]])
 (.seq (.region [u1 29 .mov [.tm 6],
 u1 30 .mov [.tm 6],
 u1 31 .len [.tm 30],
 u1 32 (.ari .sub) [.tm 31, .cn (.int .i64 1)],
 u1 33 (.slice 1 false true) [.tm 29, .tm 32],
 u1 6 .mov [.tm 33]])
 (.seq (.seq (.region [u1 34 .mov [.tm 7],
 u1 35 (.cmp .eql) [.tm 34, .cn (.int .i64 1)]])
 (.cond (.tm 35) (.exit 3)
  .skip))
 (.seq (.seq (.region [u1 36 .mov [.tm 3],
 u1 37 .len [.tm 36],
 u1 38 .mov [.cn (.int .i64 0)]])
 (.block 4 (.loop (.seq (.region [u1 39 (.cmp .lss) [.tm 38, .tm 37]])
 (.seq (.cond (.tm 39) .skip
  (.exit 4))
 (.seq (.block 5 (.seq (.region [u1 40 .mov [.tm 38],
 u1 41 (.idxAddr 1) [.tm 36, .tm 38],
 u1 42 (.load false 1) [.tm 41],
 u1 8 .mov [.tm 40],
 u1 9 .mov [.tm 42]])
 (.seq (.region [u1 43 .mov [.tm 9],
 u1 44 .mov [.tm 7],
 u1 45 (.call 67) [.tm 43, .tm 44],
 u1 10 .mov [.tm 45]])
 (.seq (.region [u1 46 .mov [.tm 10],
 u1 47 (.cmp .gtr) [.tm 46, .cn (.int .i64 1)]])
 (.cond (.tm 47) (.seq (.draw [] [w1 48 .mov [.tm 3],
 w1 49 .mov [.tm 8],
 w1 50 (.slice 1 false true) [.tm 48, .tm 49],
 w1 51 .mov [.tm 3],
 w1 52 .mov [.tm 8],
 w1 53 (.ari .add) [.tm 52, .cn (.int .i64 1)],
 w1 54 (.slice 1 true false) [.tm 51, .tm 53],
 w1 55 (.append 1 8 [(.int .i64 0)]) [.tm 50, .tm 54],
 w1 3 .mov [.tm 55]])
 (.seq (.draw [] [w1 56 .mov [.tm 6],
 w1 57 .mov [.tm 10],
 w1 58 .mov [.tm 9],
 w1 59 .mov [.tm 10],
 w1 60 .quo [.tm 58, .tm 59],
 w1 61 .mov [.tm 7],
 w1 62 .mov [.tm 10],
 w1 63 .quo [.tm 61, .tm 62],
 w1 64 (.buildSlice 1 3 [(.int .i64 0)] [(0, 1), (1, 1), (2, 1)]) [.tm 57, .tm 60, .tm 63],
 w1 65 (.append 1 8 [(.int .i64 0)]) [.tm 56, .tm 64],
 w1 6 .mov [.tm 65]])
 (.exit 3)))
  .skip)))))
 (.region [u1 66 (.ari .add) [.tm 38, .cn (.int .i64 1)],
 u1 38 .mov [.tm 66]])))))))
 (.region [u1 67 .mov [.tm 3],
 u1 68 .mov [.tm 7],
 u1 69 (.buildSlice 1 1 [(.int .i64 0)] [(0, 1)]) [.tm 68],
 u1 70 (.append 1 8 [(.int .i64 0)]) [.tm 67, .tm 69],
 u1 3 .mov [.tm 70]]))))))))))))))
 (.region [u1 71 (.ari .add) [.tm 13, .cn (.int .i64 1)],
 u1 13 .mov [.tm 71]])))))))
 (.seq (.region [u1 72 .mov [.tm 3],
 u1 2 .mov [.tm 72]])
 .ret)))) }
theorem v58_is : vfunc Try.prog Try.f58 = some v58 := by kernel_rfl
def baseC : Ctr := { alias := false, of := fun l => match l with
  | [.vs _ _ n sz get] => .ex (List (Int × Int)) fun l => .pre (lsP 2 enc2 n sz get l ∧ (∀ x, x ∈ l → okT x) ∧ n ≤ 20) (.all Bool fun y => .fin (.vs true y (baseF l).length 1 (fun k => encB ((baseF l).getD k 0))) [])
  | _ => noC }
def RA8 : Env := { ct := fun n => match n with | 67 => some gcdC | _ => none, fn := fun _ => none, meth := fun _ _ => none }
theorem RA8_ct67 : RA8.ct 67 = some gcdC := rfl
theorem RA8_ok : EnvOk Try.prog RA8 := by
  refine ⟨fun f c h => ?_, fun f vf h => ?_, (fun _ _ _ h => by cases h), by kernel_rfl, (fun _ h => by cases h)⟩
  · simp only [RA8] at h
    split at h
    · cases h; exact ⟨gcd_c, Try.f67, Try.func67, by kernel_rfl, by kernel_rfl⟩
    · cases h
  · cases h
structure DSt where
  f : Nat
  W : List Nat
  n : Nat
  out : List Nat
  yw : Bool
  yo : Bool
theorem drain_len {f : Nat} : ∀ {wait out : List Nat}, (drain f wait out).length ≤ out.length + f := by
  induction f with
  | zero => intro wait out; rw [drain]; omega
  | succ f ih =>
    intro wait out
    rw [drain]
    split
    · omega
    · split
      · have := @ih (wait.take (wait.length - 1)) out; omega
      · split
        · rename_i hh
          refine Nat.le_trans ih ?_
          rw [List.length_append, List.length_take, List.length_drop]
          omega
        · refine Nat.le_trans ih ?_
          rw [List.length_append]
          simp only [List.length_cons, List.length_nil]
          omega
theorem base_c : baseC.ok Try.prog 58 := by
  refine contract Try.func58 v58_is RA8_ok 800 baseC fun args k h => ?_
  simp only [baseC] at h
  split at h
  · rename_i tt z n sz get
    obtain ⟨l, ⟨⟨rfl, rfl, hg⟩, hl, hn⟩, h⟩ := h
    refine ⟨[.vs tt z l.length 2 (fun k => enc2 (l.getD k default))], ⟨⟨id, rfl, rfl, rfl, hg⟩, trivial⟩, ?_⟩
    dsimp only [v58, enc2, go_sem, reduceIte]
    simp only [t_all, forall_const, ne_eq, implies_true, Nat.reduceAdd, Nat.reduceLeDiff, reduceCtorEq, Nat.reduceEqDiff]
    refine Loop.keep [0, 10, 0] (Nat × List Nat × Bool) (fun s => [(3, .own 0 0 s.2.1.length 1), (13, .int .i64 s.1)]) (fun s => [(0, .own s.2.2 1 s.2.1.length (fun k => encB (s.2.1.getD k 0)))]) [.gone] (fun s => s.1 ≤ l.length ∧ s.2.1 = (l.take s.1).foldl drainF [] ∧ (∀ x, x ∈ s.2.1 → 2 ≤ x ∧ x ≤ 1099511627776) ∧ bitsN (prodL s.2.1) ≤ 40 * s.1 + 1 ∧ s.2.1.length ≤ 3000 * s.1 ∧ (s.2.2 = true → s.2.1.length = 0)) (fun s => l.length - s.1) ?_ ?_
    · refine ⟨(0, [], true), ⟨by simp only; omega, rfl, ⟨fun x hx => absurd hx (by simp), by decide, Nat.le_refl _, fun _ => rfl⟩⟩, ?_⟩
      dsimp only [List.length_nil, go_sem, reduceIte]
      simp only [fin_all, imp_self, implies_true, true_and, and_true]
      simp
    · rintro ⟨i, out, yo⟩ ⟨hi, hG, hok, hbp, hlen, hyo⟩
      dsimp only at hi hG hok hbp hlen hyo
      dsimp only [enc2, Int.toNat_natCast, go_sem, reduceIte]
      simp only [t_all, forall_const, ne_eq, implies_true, Nat.reduceAdd, Nat.reduceLeDiff, reduceCtorEq, Nat.reduceEqDiff]
      refine ⟨fun hlt => ?_, fun hge => ?_⟩
      · have hx := hl _ (getD_mem (by omega : i < l.length))
        have hstep : (l.take (i + 1)).foldl drainF [] = drainF out (l.getD i default) := by
          rw [foldl_take_succ (by omega), ← hG]
        generalize l.getD i default = x at hx hstep ⊢
        obtain ⟨q0, q1, q2, q3⟩ := hx
        obtain ⟨N, hN⟩ : ∃ N : Nat, x.1 = (N : Int) := ⟨x.1.toNat, by omega⟩
        have hR : drainF out x = drain 3000 [N] out := by rw [drainF, hN, Int.toNat_natCast]
        obtain ⟨R, hRR⟩ : ∃ R, R = drainF out x := ⟨_, rfl⟩
        rw [← hRR] at hR hstep
        rw [hN]
        have hmu : DrOk (40 * (i + 1) + 1) 3000 [N] out := DrOk.start (by omega) (by omega) hok hbp (by omega)
        refine ⟨⟨by omega, by omega⟩, by decide, ?_⟩
        refine Loop.keep [0, 10, 0, 0] DSt (fun s => [(3, .own 0 0 s.out.length 1), (6, .own 2 0 s.n 1)]) (fun s => [(0, .own s.yo 1 s.out.length (fun k => encB (s.out.getD k 0))), (2, .own s.yw 1 s.W.length (fun k => encB (s.W.getD k 0)))]) [] (fun s => s.n ≤ s.W.length ∧ DrOk (40 * (i + 1) + 1) s.f (s.W.take s.n) s.out ∧ R = drain s.f (s.W.take s.n) s.out ∧ s.out.length + s.f ≤ 3000 * (i + 1) ∧ (s.yo = true → s.out.length = 0)) (fun s => s.f) ?_ ?_
        · refine ⟨⟨3000, [N], 1, out, false, yo⟩, ⟨Nat.le_refl _, hmu, hR, by simp only; omega, hyo⟩, ?_⟩
          dsimp only [List.length_nil, List.length_cons, go_sem, reduceIte]
          simp only [fin_all, imp_self, implies_true, true_and, and_true]
          refine ⟨by decide, fun k hk => ⟨⟨rfl, rfl⟩, trivial⟩, fun k hk => ?_⟩
          obtain rfl : k = 0 := by omega
          exact ⟨⟨rfl, rfl⟩, trivial⟩
        · rintro ⟨f, W, n, out, yw, yo⟩ ⟨hnW, hmu, hR, hlen, hyo⟩
          dsimp only at hnW hmu hR hlen hyo
          dsimp only [RA8_ct67, gcdC, encB, Int.toNat_natCast, go_sem, reduceIte]
          simp only [t_all, forall_const, ne_eq, implies_true, Nat.reduceAdd, Nat.reduceLeDiff, reduceCtorEq, Nat.reduceEqDiff]
          have hwl : (W.take n).length = n := by rw [List.length_take]; omega
          refine ⟨fun hpos => ?_, fun hz => ?_⟩
          · have hwn : (W.take n).length ≠ 0 := by omega
            have hgl : (W.take n).getD ((W.take n).length - 1) 0 = W.getD (n - 1) 0 := by
              rw [hwl, List.getD_eq_getElem?_getD, List.getD_eq_getElem?_getD, List.getElem?_take, if_pos (by omega)]
            have htl : (W.take n).take ((W.take n).length - 1) = W.take (n - 1) := by
              rw [hwl, List.take_take]; congr 1; omega
            obtain ⟨g, rfl⟩ : ∃ g, f = g + 1 := ⟨f - 1, by have := hmu.mu; omega⟩
            have hnf : n ≤ 70000 := by have := hmu.mu; omega
            rw [w_pred (by omega) (by omega), Int.toNat_natCast]
            rw [drain, if_neg hwn, hgl, htl] at hR
            obtain ⟨v, hv⟩ : ∃ v, v = W.getD (n - 1) 0 := ⟨_, rfl⟩
            have hvr : 1 ≤ v ∧ v ≤ 1099511627776 := by
              have := hmu.wp _ (getD_mem (l := W.take n) (i := (W.take n).length - 1) (by omega))
              rw [show (W.take n).getD ((W.take n).length - 1) default = W.getD (n - 1) 0 from hgl, ← hv] at this
              exact this
            refine ⟨⟨by omega, by omega⟩, by omega, ⟨by omega, by omega⟩, fun h1 => ?_, fun h1 => ?_⟩
            · have h1' : W.getD (n - 1) 0 = 1 := by omega
              obtain ⟨g', hg', hd⟩ := hmu.pop hwn (by rw [hgl]; exact h1')
              obtain rfl : g = g' := by omega
              rw [if_pos h1'] at hR
              rw [htl] at hd
              refine ⟨⟨g, W, n - 1, out, yw, yo⟩, ⟨by simp only; omega, hd, hR, by simp only; omega, hyo⟩, by simp only; omega, ?_⟩
              simp only [fin_all, imp_self, implies_true, true_and, and_true]
              exact ⟨by decide, by decide⟩
            · have h1' : W.getD (n - 1) 0 ≠ 1 := by omega
              rw [if_neg h1'] at hR
              rw [← hv] at hR h1' ⊢
              refine Loop.keep [0, 2, 2, 0, 3, 0, 0, 22, 0] Nat (fun t => [(38, .int .i64 t)]) (fun t => []) [] (fun t => t ≤ out.length ∧ ∀ j, j < t → ¬ 1 < Nat.gcd (out.getD j 0) v) (fun t => out.length - t) ?_ ?_
              · refine ⟨0, ⟨by omega, fun j hj => by omega⟩, ?_⟩
                dsimp only [go_sem, reduceIte]
                simp only [fin_all, imp_self, implies_true, true_and, and_true]
                exact ⟨by decide, by decide, by decide, rfl⟩
              · rintro t ⟨ht, hno⟩
                dsimp only [RA8_ct67, gcdC, encB, Int.toNat_natCast, go_sem, reduceIte]
                simp only [t_all, forall_const, ne_eq, implies_true, Nat.reduceAdd, Nat.reduceLeDiff, reduceCtorEq, Nat.reduceEqDiff]
                refine ⟨fun hlt2 => ?_, fun hge2 => ?_⟩
                · have hb : 2 ≤ out.getD t 0 ∧ out.getD t 0 ≤ 1099511627776 := hmu.op _ (getD_mem (l := out) (i := t) (by omega))
                  have w1 : IntKind.i64.wrap ((t : Int) + 1) = ((t + 1 : Nat) : Int) := by rw [IntWalk.i64_in _ (by omega)]; simp
                  rw [w1, Int.toNat_natCast]
                  refine ⟨⟨by omega, by omega⟩, by omega, out.getD t 0, v, ⟨rfl, rfl, by omega, by omega⟩, fun hgt => ?_, fun hng => ?_⟩
                  · have hgt' : 1 < Nat.gcd (out.getD t 0) v := by omega
                    have hh : hitF out v = t := leastF_eq (fun j hj => decide_eq_false (hno j hj)) (by omega) (fun _ => decide_eq_true hgt')
                    obtain ⟨g', hg', hd⟩ := hmu.hit hwn (i := t) (by omega) (by rw [hgl, ← hv]; exact hgt')
                    obtain rfl : g = g' := by omega
                    rw [hh, if_pos (by omega)] at hR
                    rw [hgl, htl, ← hv] at hd
                    obtain ⟨b, hbd⟩ : ∃ b, b = out.getD t 0 := ⟨_, rfl⟩
                    rw [← hbd] at hR hd hb hgt hgt' ⊢
                    obtain ⟨G, hG'⟩ : ∃ G, G = Nat.gcd b v := ⟨_, rfl⟩
                    rw [← hG'] at hR hd hgt hgt' ⊢
                    have e1 : IntKind.i64.wrap ((b : Int).tdiv (G : Int)) = ((b / G : Nat) : Int) := by
                      have : (b : Int).tdiv (G : Int) = ((b / G : Nat) : Int) := IntWalk.up_tdiv rfl rfl
                      have h2 : b / G ≤ b := Nat.div_le_self _ _
                      rw [this]
                      generalize b / G = q at h2 ⊢
                      exact IntWalk.i64_in _ (by omega)
                    have e2 : IntKind.i64.wrap ((v : Int).tdiv (G : Int)) = ((v / G : Nat) : Int) := by
                      have : (v : Int).tdiv (G : Int) = ((v / G : Nat) : Int) := IntWalk.up_tdiv rfl rfl
                      have h2 : v / G ≤ v := Nat.div_le_self _ _
                      rw [this]
                      generalize v / G = q at h2 ⊢
                      exact IntWalk.i64_in _ (by omega)
                    rw [e1, e2]
                    have hsub : subLo out.length (t + 1) = out.length - (t + 1) := by unfold subLo; rfl
                    rw [hsub]
                    have hWt : (W.take (n - 1) ++ [G, b / G, v / G]).length = n - 1 + 3 := by rw [List.length_append, List.length_take]; simp only [List.length_cons, List.length_nil]; omega
                    have hol : (out.take t ++ out.drop (t + 1)).length = t + (out.length - (t + 1)) := by rw [List.length_append, List.length_take, List.length_drop]; omega
                    refine ⟨⟨by omega, by omega⟩, ⟨by omega, by omega⟩, by unfold capOk; omega, by omega, by omega, by decide, ⟨by unfold capOk; omega, fun k hk => ?_⟩, ⟨g, W.take (n - 1) ++ [G, b / G, v / G], n - 1 + 3, out.take t ++ out.drop (t + 1), yw && decide False, yo && decide (out.length - (t + 1) = 0)⟩, ⟨?_, ?_, ?_, ?_, ?_⟩, by simp only; omega, ?_⟩
                    · match k, hk with
                      | 0, _ => exact ⟨rfl, trivial, trivial⟩
                      | 1, _ => exact ⟨rfl, trivial, trivial⟩
                      | 2, _ => exact ⟨rfl, trivial, trivial⟩
                    · simp only; omega
                    · simp only; rw [← hWt, List.take_length]; exact hd
                    · simp only; rw [← hWt, List.take_length]; exact hR
                    · simp only; omega
                    · simp only
                      intro hy
                      rw [Bool.and_eq_true] at hy
                      have := hyo hy.1
                      omega
                    · simp only [hol, hWt]
                      simp only [fin_all, imp_self, implies_true, true_and, and_true]
                      refine ⟨by decide, fun k hk => ?_, fun k hk => ?_⟩
                      · rw [addLo_eq]
                        by_cases hkt : k < t
                        · rw [if_pos hkt, List.getD_eq_getElem?_getD (l := _ ++ _), List.getElem?_append_left (by rw [List.length_take]; omega), List.getElem?_take, if_pos hkt, ← List.getD_eq_getElem?_getD]
                          exact ⟨⟨rfl, rfl⟩, trivial⟩
                        · rw [if_neg hkt, List.getD_eq_getElem?_getD (l := _ ++ _), List.getElem?_append_right (by rw [List.length_take]; omega), List.length_take, List.getElem?_drop, ← List.getD_eq_getElem?_getD, show t + 1 + (k - min t out.length) = t + 1 + (k - t) by omega]
                          exact ⟨⟨rfl, rfl⟩, trivial⟩
                      · by_cases hkt : k < n - 1
                        · rw [if_pos hkt, List.getD_eq_getElem?_getD (l := _ ++ _), List.getElem?_append_left (by rw [List.length_take]; omega), List.getElem?_take, if_pos hkt, ← List.getD_eq_getElem?_getD]
                          exact ⟨⟨rfl, rfl⟩, trivial⟩
                        · rw [if_neg hkt, List.getD_eq_getElem?_getD (l := _ ++ _), List.getElem?_append_right (by rw [List.length_take]; omega), List.length_take, show k - min (n - 1) W.length = k - (n - 1) by omega]
                          obtain ⟨q, hq⟩ : ∃ q, q = k - (n - 1) := ⟨_, rfl⟩
                          rw [← hq]
                          have hq3 : q < 3 := by omega
                          match q, hq3 with
                          | 0, _ => exact ⟨⟨rfl, rfl⟩, trivial⟩
                          | 1, _ => exact ⟨⟨rfl, rfl⟩, trivial⟩
                          | 2, _ => exact ⟨⟨rfl, rfl⟩, trivial⟩
                  · refine ⟨t + 1, ⟨by omega, fun j hj => ?_⟩, by omega, ?_⟩
                    · rcases Nat.lt_or_ge j t with h' | h'
                      · exact hno j h'
                      · obtain rfl : j = t := by omega
                        exact fun hh => hng (by omega)
                    · simp only [fin_all, imp_self, implies_true, true_and, and_true]
                      exact ⟨by decide, by decide, by decide⟩
                · obtain rfl : t = out.length := by omega
                  have hh : hitF out v = out.length := leastF_eq (fun j hj => decide_eq_false (hno j hj)) (Nat.le_refl _) (fun hlt => absurd hlt (Nat.lt_irrefl _))
                  obtain ⟨g', hg', hd⟩ := hmu.push hwn (by rw [hgl, ← hv]; exact h1')
                  obtain rfl : g = g' := by omega
                  rw [hh, if_neg (Nat.lt_irrefl _)] at hR
                  rw [hgl, htl, ← hv] at hd
                  have hol : (out ++ [v]).length = out.length + 1 := by rw [List.length_append]; rfl
                  refine ⟨by decide, ⟨by unfold capOk; omega, fun k hk => ?_⟩, ⟨g, W, n - 1, out ++ [v], yw, yo && decide False⟩, ⟨by simp only; omega, hd, hR, by simp only; omega, ?_⟩, by simp only; omega, ?_⟩
                  · obtain rfl : k = 0 := by omega
                    exact ⟨rfl, trivial, trivial⟩
                  · simp
                  · simp only [hol]
                    simp only [fin_all, imp_self, implies_true, true_and, and_true]
                    refine ⟨by decide, fun k hk => ?_⟩
                    by_cases hkt : k < out.length
                    · rw [if_pos hkt, List.getD_eq_getElem?_getD (l := _ ++ _), List.getElem?_append_left hkt, ← List.getD_eq_getElem?_getD]
                      exact ⟨⟨rfl, rfl⟩, trivial⟩
                    · obtain rfl : k = out.length := by omega
                      rw [if_neg hkt, List.getD_eq_getElem?_getD (l := _ ++ _), List.getElem?_append_right (Nat.le_refl _), Nat.sub_self]
                      exact ⟨⟨rfl, rfl⟩, trivial⟩
          · obtain rfl : n = 0 := by omega
            rw [List.take_zero] at hR hmu
            have hRo : R = out := by
              rw [hR]
              cases f with
              | zero => rfl
              | succ f => rw [drain, if_pos List.length_nil]
            have hpb := hmu.pb
            rw [show prodL out * prodL [] = prodL out from Nat.mul_one _] at hpb
            refine ⟨(i + 1, out, yo), ⟨by simp only; omega, by rw [hstep, hRo], hmu.op, hpb, by simp only; omega, hyo⟩, by simp only; omega, ?_⟩
            rw [IntWalk.i64_in ((i : Int) + 1) (by omega)]
            simp only [fin_all, imp_self, implies_true, true_and, and_true]
            exact ⟨by decide, by simp⟩
      · obtain rfl : i = l.length := by omega
        rw [List.take_length] at hG
        have hG : baseF l = out := hG.symm
        rw [hG] at h
        refine ans_le (show k (.vs true yo out.length 1 (fun k => encB (out.getD k 0))) [] from h yo) ?_ (fun _ => by simp [freshS, encB, freshL])
        have e : expo [HO.own yo 1 out.length fun k => encB (out.getD k 0)] (SV.own 0 0 out.length 1) = .vs true yo out.length 1 (fun k => encB (out.getD k 0)) := by
          simp [expo, view, viewL, viewN, getH, addLo_z, encB]
        rw [e]
        exact le_self _ trivial
  · exact h.1.elim
end Go.Proofs.Ytijadllhfgajlaa
set_option linter.all false
namespace Go.Proofs.Ytijadllhfgajlaa
open Go Go.Vx
set_option maxRecDepth 100000
set_option maxHeartbeats 4000000
def v50 : VF := { ntmps := 39, res := [.tmp 2], body :=
 (.seq (.region [u1 2 .mov [.cn (.bool false)]])
 (.seq (.seq (.region [u1 9 .mov [.tm 0],
 u1 10 (.call 58) [.tm 9],
 u1 11 .len [.tm 10],
 u1 12 .mov [.cn (.int .i64 0)]])
 (.block 0 (.loop (.seq (.region [u1 13 (.cmp .lss) [.tm 12, .tm 11]])
 (.seq (.cond (.tm 13) .skip
  (.exit 0))
 (.seq (.block 1 (.seq (.region [u1 14 (.idxAddr 1) [.tm 10, .tm 12],
 u1 15 (.load false 1) [.tm 14],
 u1 4 .mov [.tm 15]])
 (.seq (.region [u1 5 .mov [.cn (.int .i64 0)]])
 (.seq (.seq (.region [u1 16 .mov [.tm 0],
 u1 17 .len [.tm 16],
 u1 18 .mov [.cn (.int .i64 0)]])
 (.block 2 (.loop (.seq (.region [u1 19 (.cmp .lss) [.tm 18, .tm 17]])
 (.seq (.cond (.tm 19) .skip
  (.exit 2))
 (.seq (.block 3 (.seq (.region [u1 20 (.idxAddr 2) [.tm 16, .tm 18],
 u1 21 (.load true 2) [.tm 20],
 u1 7 (.alloc [(.int .i64 0), (.int .i64 0)]) [],
 u0 (.store 2) [.tm 7, .tm 21]])
 (.seq (.region [u1 22 (.fieldAddr 0) [.tm 7],
 u1 23 (.load false 1) [.tm 22],
 u1 8 .mov [.tm 23]])
 (.block 4 (.loop (.seq (.seq (.region [u1 24 .mov [.tm 8],
 u1 25 .mov [.tm 4],
 u1 26 .rem [.tm 24, .tm 25],
 u1 27 (.cmp .eql) [.tm 26, .cn (.int .i64 0)]])
 (.cond (.tm 27) .skip
  (.exit 4)))
 (.seq (.block 5 (.region [u1 31 .mov [.tm 5],
 u1 32 (.fieldAddr 1) [.tm 7],
 u1 33 (.load false 1) [.tm 32],
 u1 34 (.ari .add) [.tm 31, .tm 33],
 u1 5 .mov [.tm 34]]))
 (.region [u1 28 .mov [.tm 8],
 u1 29 .mov [.tm 4],
 u1 30 .quo [.tm 28, .tm 29],
 u1 8 .mov [.tm 30]]))))))))
 (.region [u1 35 (.ari .add) [.tm 18, .cn (.int .i64 1)],
 u1 18 .mov [.tm 35]])))))))
 (.seq (.region [u1 36 .mov [.tm 5],
 u1 37 (.cmp .neq) [.tm 36, .cn (.int .i64 0)]])
 (.cond (.tm 37) (.seq (.region [u1 2 .mov [.cn (.bool false)]])
 .ret)
  .skip))))))
 (.region [u1 38 (.ari .add) [.tm 12, .cn (.int .i64 1)],
 u1 12 .mov [.tm 38]])))))))
 (.seq (.region [u1 2 .mov [.cn (.bool true)]])
 .ret))) }
theorem v50_is : vfunc Try.prog Try.f50 = some v50 := by kernel_rfl
def divL : Nat → Int → Int → Int → Int → Int
  | 0, _, _, _, s => s
  | f + 1, b, n, num, s => if n.tmod b = 0 then divL f b (IntKind.i64.wrap (n.tdiv b)) num (IntKind.i64.wrap (s + num)) else s
def sumB (l : List (Int × Int)) (b : Nat) : Int := l.foldl (fun s x => divL 64 b x.1 x.2 s) 0
def oneF (l : List (Int × Int)) : Bool := (baseF l).all fun b => decide (sumB l b = 0)
theorem drain_rng {B : Nat} : ∀ {f : Nat} {wait out : List Nat}, DrOk B f wait out → (∀ x, x ∈ drain f wait out → 2 ≤ x ∧ x ≤ 1099511627776) ∧ bitsN (prodL (drain f wait out)) ≤ B
  | 0, wait, out, h => by
    rw [drain]
    have hw : wait = [] := List.length_eq_zero_iff.1 (by have := h.mu; omega)
    have := h.pb
    rw [hw, show prodL out * prodL [] = prodL out from Nat.mul_one _] at this
    exact ⟨h.op, this⟩
  | f + 1, wait, out, h => by
    rw [drain]
    by_cases hw : wait.length = 0
    · rw [if_pos hw]
      have hw : wait = [] := List.length_eq_zero_iff.1 hw
      have := h.pb
      rw [hw, show prodL out * prodL [] = prodL out from Nat.mul_one _] at this
      exact ⟨h.op, this⟩
    · rw [if_neg hw]
      by_cases h1 : wait.getD (wait.length - 1) 0 = 1
      · rw [if_pos h1]
        obtain ⟨g, hg, hd⟩ := h.pop hw h1
        obtain rfl : f = g := by omega
        exact drain_rng hd
      · rw [if_neg h1]
        by_cases h2 : hitF out (wait.getD (wait.length - 1) 0) < out.length
        · rw [if_pos h2]
          have hs := (leastF_spec (f := fun i => decide (1 < Nat.gcd (out.getD i 0) (wait.getD (wait.length - 1) 0))) out.length 0).2.2.2 (by simpa [hitF] using h2)
          obtain ⟨g, hg, hd⟩ := h.hit hw h2 (of_decide_eq_true hs)
          obtain rfl : f = g := by omega
          exact drain_rng hd
        · rw [if_neg h2]
          obtain ⟨g, hg, hd⟩ := h.push hw h1
          obtain rfl : f = g := by omega
          exact drain_rng hd
theorem baseF_rng {l : List (Int × Int)} (hl : ∀ x, x ∈ l → okT x) (hn : l.length ≤ 20) : ∀ x, x ∈ baseF l → 2 ≤ x ∧ x ≤ 1099511627776 := by
  have key : ∀ i, i ≤ l.length → (∀ x, x ∈ (l.take i).foldl drainF [] → 2 ≤ x ∧ x ≤ 1099511627776) ∧ bitsN (prodL ((l.take i).foldl drainF [])) ≤ 40 * i + 1 := fun i => by
    induction i with
    | zero => exact fun _ => ⟨fun x hx => absurd hx (by simp), by simp [prodL]; decide⟩
    | succ i ih =>
      intro hi
      obtain ⟨h1, h2⟩ := ih (by omega)
      have hx := hl _ (getD_mem (by omega : i < l.length))
      rw [foldl_take_succ (by omega)]
      obtain ⟨q0, q1, q2, q3⟩ := hx
      exact drain_rng (DrOk.start (by omega) (by omega) h1 h2 (by omega))
  have := (key l.length (Nat.le_refl _)).1
  rwa [List.take_length] at this
theorem baseF_len (l : List (Int × Int)) : (baseF l).length ≤ 3000 * l.length := by
  have key : ∀ (l : List (Int × Int)) (out : List Nat), (l.foldl drainF out).length ≤ out.length + 3000 * l.length := fun l => by
    induction l with
    | nil => intro out; simp
    | cons x l ih =>
      intro out
      have h1 := ih (drainF out x)
      have h2 : (drainF out x).length ≤ out.length + 3000 := drain_len
      rw [List.foldl_cons, List.length_cons]
      omega
  have h := key l []
  rw [List.length_nil, Nat.zero_add] at h
  exact h
def oneC : Ctr := { alias := false, of := fun l => match l with
  | [.vs _ _ n sz get] => .ex (List (Int × Int)) fun l => .pre (lsP 2 enc2 n sz get l ∧ (∀ x, x ∈ l → okT x) ∧ n ≤ 20) (.fin (.bool (oneF l)) [])
  | _ => .pre False (.fin (.bool false) []) }
def RA9 : Env := { ct := fun n => match n with | 58 => some baseC | _ => none, fn := fun _ => none, meth := fun _ _ => none }
theorem RA9_ct58 : RA9.ct 58 = some baseC := rfl
theorem RA9_ok : EnvOk Try.prog RA9 := by
  refine ⟨fun f c h => ?_, fun f vf h => ?_, (fun _ _ _ h => by cases h), by kernel_rfl, (fun _ h => by cases h)⟩
  · simp only [RA9] at h
    split at h
    · cases h; exact ⟨base_c, Try.f58, Try.func58, by kernel_rfl, by kernel_rfl⟩
    · cases h
  · cases h
theorem one_c : oneC.ok Try.prog 50 := by
  refine contract Try.func50 v50_is RA9_ok 500 oneC fun args k h => ?_
  simp only [oneC] at h
  split at h
  · rename_i tt z n sz get
    obtain ⟨l, ⟨⟨rfl, rfl, hg⟩, hl, hn⟩, h⟩ := h
    refine ⟨[.vs tt z l.length 2 (fun k => enc2 (l.getD k default))], ⟨⟨id, rfl, rfl, rfl, hg⟩, trivial⟩, ?_⟩
    dsimp only [v50, RA9_ct58, baseC, enc2, go_sem, reduceIte]
    simp only [t_all, forall_const, ne_eq, implies_true, Nat.reduceAdd, Nat.reduceLeDiff, reduceCtorEq, Nat.reduceEqDiff]
    refine ⟨l, ⟨⟨rfl, rfl, fun k hk => leXL_self _⟩, hl, hn⟩, fun y => ?_⟩
    have hbr := baseF_rng hl hn
    have hbl := baseF_len l
    obtain ⟨B, hB⟩ : ∃ B, B = baseF l := ⟨_, rfl⟩
    rw [← hB] at hbr hbl ⊢
    have hone : oneF l = B.all fun b => decide (sumB l b = 0) := by rw [hB]; rfl
    refine Loop.keep [0, 9, 0] Nat (fun i => [(12, .int .i64 i)]) (fun _ => []) [] (fun i => i ≤ B.length ∧ ((B.take i).all fun b => decide (sumB l b = 0)) = true) (fun i => B.length - i) ?_ ?_
    · refine ⟨0, ⟨by omega, rfl⟩, ?_⟩
      dsimp only [go_sem, reduceIte]
      simp only [fin_all, imp_self, implies_true, true_and, and_true]
      rfl
    · rintro i ⟨hi, hall⟩
      dsimp only [RA9_ct58, baseC, encB, enc2, Int.toNat_natCast, go_sem, reduceIte]
      simp only [t_all, forall_const, ne_eq, implies_true, Nat.reduceAdd, Nat.reduceLeDiff, reduceCtorEq, Nat.reduceEqDiff]
      refine ⟨fun hlt => ⟨⟨by omega, by omega⟩, ?_⟩, fun hge => ?_⟩
      · have hb : 2 ≤ B.getD i 0 ∧ B.getD i 0 ≤ 1099511627776 := hbr _ (getD_mem (l := B) (i := i) (by omega))
        have hsucc : ((B.take (i + 1)).all fun b => decide (sumB l b = 0)) = decide (sumB l (B.getD i 0) = 0) := by
          rw [take_all_succ (by omega), hall, Bool.true_and]; rfl
        have hmemb : B.getD i 0 ∈ B := getD_mem (l := B) (i := i) (by omega)
        obtain ⟨b, hbe⟩ : ∃ b, b = B.getD i 0 := ⟨_, rfl⟩
        rw [← hbe] at hb hsucc hmemb ⊢
        refine Loop.keep [0, 3, 5, 0, 0, 3, 0] (Nat × Int) (fun s => [(5, .int .i64 s.2), (18, .int .i64 s.1)]) (fun _ => []) [] (fun s => s.1 ≤ l.length ∧ s.2 = (l.take s.1).foldl (fun s x => divL 64 b x.1 x.2 s) 0) (fun s => l.length - s.1) ?_ ?_
        · refine ⟨(0, 0), ⟨by simp only; omega, rfl⟩, ?_⟩
          dsimp only [go_sem, reduceIte]
          simp only [fin_all, imp_self, implies_true, true_and, and_true]
          rfl
        · rintro ⟨t, S⟩ ⟨ht, hS⟩
          dsimp only at ht hS
          dsimp only [enc2, Int.toNat_natCast, go_sem, reduceIte]
          simp only [t_all, forall_const, ne_eq, implies_true, Nat.reduceAdd, Nat.reduceLeDiff, reduceCtorEq, Nat.reduceEqDiff]
          refine ⟨fun hlt2 => ⟨⟨by omega, by omega⟩, ?_⟩, fun hge2 => ?_⟩
          · have hx := hl _ (getD_mem (by omega : t < l.length))
            have hst : (l.take (t + 1)).foldl (fun s x => divL 64 b x.1 x.2 s) 0 = divL 64 b (l.getD t default).1 (l.getD t default).2 S := by
              rw [foldl_take_succ (by omega), ← hS]
            generalize l.getD t default = x at hx hst ⊢
            obtain ⟨q0, q1, q2, q3⟩ := hx
            obtain ⟨R, hR⟩ : ∃ R, R = divL 64 b x.1 x.2 S := ⟨_, rfl⟩
            rw [← hR] at hst
            refine Loop.keep [0, 3, 2, 2, 0, 0, 3, 0, 0] (Nat × Int × Int) (fun s => [(5, .int .i64 s.2.2), (8, .int .i64 s.2.1)]) (fun _ => []) [] (fun s => R = divL s.1 b s.2.1 x.2 s.2.2 ∧ 1 ≤ s.2.1 ∧ s.2.1 < 2 ^ s.1 ∧ s.2.1 ≤ 1000000000001) (fun s => s.1) ?_ ?_
            · refine ⟨(64, x.1, S), ⟨hR, q0, by simp only; omega, q1⟩, ?_⟩
              dsimp only [go_sem, reduceIte]
              simp only [fin_all, imp_self, implies_true, true_and, and_true]
              decide
            · rintro ⟨f, n, S'⟩ ⟨hf, n0, n1, n2⟩
              dsimp only at hf n0 n1 n2
              dsimp only [go_sem, reduceIte]
              simp only [t_all, forall_const, ne_eq, implies_true, Nat.reduceAdd, Nat.reduceLeDiff, reduceCtorEq, Nat.reduceEqDiff]
              obtain ⟨m, rfl⟩ := Int.eq_ofNat_of_zero_le (by omega : 0 ≤ n)
              obtain ⟨g, rfl⟩ : ∃ g, f = g + 1 := by
                cases f with
                | zero => simp at n1; omega
                | succ g => exact ⟨g, rfl⟩
              rw [divL] at hf
              refine ⟨by omega, fun hc => ⟨by omega, ?_⟩, fun hc => ?_⟩
              · rw [if_pos hc] at hf
                have e1 : (m : Int).tmod (b : Int) = ((m % b : Nat) : Int) := IntWalk.up_tmod rfl rfl
                have e2 : (m : Int).tdiv (b : Int) = ((m / b : Nat) : Int) := IntWalk.up_tdiv rfl rfl
                rw [e1] at hc
                have hdm := Nat.div_add_mod m b
                rw [show m % b = 0 by omega, Nat.add_zero] at hdm
                have hq1 : 1 ≤ m / b := Nat.pos_of_ne_zero fun hh => by rw [hh, Nat.mul_zero] at hdm; omega
                have hq2 : 2 * (m / b) ≤ m := by
                  have : 2 * (m / b) ≤ b * (m / b) := Nat.mul_le_mul_right _ hb.1
                  omega
                rw [e2] at hf ⊢
                generalize m / b = q at hq1 hq2 hf ⊢
                have eq : IntKind.i64.wrap (q : Int) = (q : Int) := IntWalk.i64_in _ (by omega)
                rw [eq] at hf ⊢
                have n1' : m < 2 ^ g * 2 := by rw [← Nat.pow_succ]; exact_mod_cast n1
                refine ⟨(g, q, IntKind.i64.wrap (S' + x.2)), ⟨hf, by simp only; omega, ?_, by simp only; omega⟩, by simp only; omega, ?_⟩
                · show (q : Int) < 2 ^ g
                  have : q < 2 ^ g := by omega
                  exact_mod_cast this
                · simp only [fin_all, imp_self, implies_true, true_and, and_true]
                  decide
              · rw [if_neg hc] at hf
                refine ⟨(t + 1, S'), ⟨by simp only; omega, by rw [hst, hf]⟩, by simp only; omega, ?_⟩
                rw [IntWalk.i64_in ((t : Int) + 1) (by omega)]
                simp only [fin_all, imp_self, implies_true, true_and, and_true]
                simp
          · obtain rfl : t = l.length := by omega
            rw [List.take_length] at hS
            have hS : S = sumB l b := hS
            refine ⟨fun hc => ?_, fun hc => ⟨i + 1, ⟨by omega, ?_⟩, by omega, ?_⟩⟩
            · have : oneF l = false := by
                rw [hone, List.all_eq_false]
                exact ⟨b, hmemb, by rw [← hS]; simpa using hc⟩
              rw [this] at h
              exact ans_bool h
            · rw [hsucc, ← hS]; exact decide_eq_true hc
            · rw [IntWalk.i64_in ((i : Int) + 1) (by omega)]
              simp only [fin_all, imp_self, implies_true, true_and, and_true]
              simp
      · obtain rfl : i = B.length := by omega
        rw [List.take_length] at hall
        rw [hone, hall] at h
        exact ans_bool h
  · exact h.1.elim
end Go.Proofs.Ytijadllhfgajlaa
set_option linter.all false
namespace Go.Proofs.Ytijadllhfgajlaa
open Go Go.Vx
set_option maxRecDepth 100000
set_option maxHeartbeats 4000000
def v48 : VF := { ntmps := 39, res := [.tmp 2], body :=
 (.seq (.region [u1 2 .mov [.cn (.int .i64 0)]])
 (.seq (.seq (.region [u1 9 .mov [.tm 0],
 u1 10 (.call 55) [.tm 9],
 u1 8 .mov [.tm 10],
 u1 11 (.ext 0) [.tm 8],
 u1 12 (.ext 1) [.tm 8],
 u1 3 .mov [.tm 11],
 u1 4 .mov [.tm 12]])
 (.seq (.region [u1 13 .mov [.tm 4]])
 (.cond (.tm 13) (.seq (.region [u1 14 .mov [.tm 3],
 u1 2 .mov [.tm 14]])
 .ret)
  .skip)))
 (.seq (.seq (.region [u1 15 .mov [.tm 0],
 u1 16 (.call 50) [.tm 15]])
 (.cond (.tm 16) (.seq (.region [u1 2 .mov [.cn (.int .i64 0)]])
 .ret)
  .skip))
 (.seq (.seq (.region [u1 5 .mov [.cn (.int .i64 64)]])
 (.block 0 (.loop (.seq (.seq (.region [u1 17 .mov [.tm 5],
 u1 18 (.cmp .leq) [.tm 17, .cn (.int .i64 2048)]])
 (.cond (.tm 18) .skip
  (.exit 0)))
 (.seq (.block 1 (.seq (.region [u1 22 .mov [.tm 0],
 u1 23 .mov [.tm 5],
 u1 24 (.call 56) [.tm 22, .tm 23],
 u1 21 .mov [.tm 24],
 u1 25 (.ext 0) [.tm 21],
 u1 26 (.ext 1) [.tm 21],
 u1 6 (.alloc [.nil, .nil]) [],
 u1 7 (.alloc [.nil, .nil]) [],
 u0 (.store 2) [.tm 6, .tm 25],
 u0 (.store 2) [.tm 7, .tm 26]])
 (.block 2 (.seq (.region [u1 28 (.fieldAddr 0) [.tm 6],
 u1 29 (.load false 1) [.tm 28],
 u1 30 (.fieldAddr 1) [.tm 7],
 u1 31 (.load false 1) [.tm 30],
 u1 32 (.call 57) [.tm 29, .tm 31],
 u1 27 .mov [.tm 32]])
 (.cond (.tm 27) (.seq (.region [u1 2 .mov [.cn (.int .i64 1)]])
 .ret)
  (.seq (.region [u1 34 (.fieldAddr 0) [.tm 7],
 u1 35 (.load false 1) [.tm 34],
 u1 36 (.fieldAddr 1) [.tm 6],
 u1 37 (.load false 1) [.tm 36],
 u1 38 (.call 57) [.tm 35, .tm 37],
 u1 33 .mov [.tm 38]])
 (.cond (.tm 33) (.seq (.region [u1 2 .mov [.cn (.int .i64 (-1))]])
 .ret)
  .skip)))))))
 (.region [u1 19 .mov [.tm 5],
 u1 20 (.ari .mul) [.tm 19, .cn (.int .i64 2)],
 u1 5 .mov [.tm 20]]))))))
 (.seq (.region [u1 2 .mov [.cn (.int .i64 0)]])
 .ret))))) }
theorem v48_is : vfunc Try.prog Try.f48 = some v48 := by kernel_rfl
def v45 : VF := { ntmps := 33, res := [.tmp 2], body :=
 (.seq (.region [u1 2 .mov [.cn (.int .i64 0)]])
 (.seq (.seq (.region [u1 5 .mov [.tm 0],
 u1 6 .len [.tm 5],
 u1 7 (.cmp .gtr) [.tm 6, .cn (.int .i64 16)]])
 (.cond (.tm 7) (.seq (.region [u1 2 .mov [.cn (.int .i64 3)]])
 .ret)
  .skip))
 (.seq (.seq (.region [u1 8 .mov [.tm 0],
 u1 9 .len [.tm 8],
 u1 10 .mov [.cn (.int .i64 0)]])
 (.block 0 (.loop (.seq (.region [u1 11 (.cmp .lss) [.tm 10, .tm 9]])
 (.seq (.cond (.tm 11) .skip
  (.exit 0))
 (.seq (.block 1 (.seq (.region [u1 12 (.idxAddr 2) [.tm 8, .tm 10],
 u1 13 (.load true 2) [.tm 12],
 u1 4 (.alloc [(.int .i64 0), (.int .i64 0)]) [],
 u0 (.store 2) [.tm 4, .tm 13]])
 (.seq (.region [u1 14 (.fieldAddr 0) [.tm 4],
 u1 15 (.load false 1) [.tm 14],
 u1 16 (.cmp .lss) [.tm 15, .cn (.int .i64 1)],
 u1 17 .mov [.tm 16],
 u2 18 17 false (.fieldAddr 0) [.tm 4],
 u2 19 17 false (.load false 1) [.tm 18],
 u2 20 17 false (.cmp .gtr) [.tm 19, .cn (.int .i64 1000000000000)],
 u1 21 .or [.tm 17, .tm 20],
 u1 22 .mov [.tm 21],
 u2 23 22 false (.fieldAddr 1) [.tm 4],
 u2 24 22 false (.load false 1) [.tm 23],
 u2 25 22 false (.cmp .lss) [.tm 24, .cn (.int .i64 (-1000000000))],
 u1 26 .or [.tm 22, .tm 25],
 u1 27 .mov [.tm 26],
 u2 28 27 false (.fieldAddr 1) [.tm 4],
 u2 29 27 false (.load false 1) [.tm 28],
 u2 30 27 false (.cmp .gtr) [.tm 29, .cn (.int .i64 1000000000)],
 u1 31 .or [.tm 27, .tm 30]])
 (.cond (.tm 31) (.seq (.region [u1 2 .mov [.cn (.int .i64 2)]])
 .ret)
  .skip))))
 (.region [u1 32 (.ari .add) [.tm 10, .cn (.int .i64 1)],
 u1 10 .mov [.tm 32]])))))))
 (.seq (.region [u1 2 .mov [.cn (.int .i64 0)]])
 .ret)))) }
theorem v45_is : vfunc Try.prog Try.f45 = some v45 := by kernel_rfl
def signL : Nat → List (Int × Int) → Nat → Int
  | 0, _, _ => 0
  | f + 1, l, p => if (sumsF l p).dh < (sumsF l p).ul then 1 else if (sumsF l p).uh < (sumsF l p).dl then -1 else signL f l (2 * p)
def signF (l : List (Int × Int)) : Int := if (guessF l).2 = true then (guessF l).1 else if oneF l = true then 0 else signL 6 l 64
def signC : Ctr := { alias := false, of := fun l => match l with
  | [.vs _ _ n sz get] => .ex (List (Int × Int)) fun l => .pre (lsP 2 enc2 n sz get l ∧ (∀ x, x ∈ l → okT x) ∧ n ≤ 20) (.fin (.int .i64 (signF l)) [])
  | _ => .pre False (.fin (.int .i64 0) []) }
def okT0 (x : Int × Int) : Bool := decide (x.1 < 1) || decide (1000000000000 < x.1) || decide (x.2 < -1000000000) || decide (1000000000 < x.2)
def chkTF (l : List (Int × Int)) : Int := if 16 < l.length then 3 else if l.any okT0 = true then 2 else 0
def chkTC : Ctr := { alias := false, of := fun l => match l with
  | [.vs _ _ n sz get] => .ex (List (Int × Int)) fun l => .pre (lsP 2 enc2 n sz get l ∧ n ≤ 9223372036854775807) (.fin (.int .i64 (chkTF l)) [])
  | _ => noC }
theorem sumsF_ok (l : List (Int × Int)) (p : Nat) : (sumsF l p).ok := by
  have key : ∀ (l : List (Int × Int)) (s : Bnd), s.ok → (l.foldl (sumsS p) s).ok := fun l => by
    induction l with
    | nil => intro s h; exact h
    | cons x l ih => intro s h; exact ih _ (sumsS_ok p s x h)
  exact key l _ (by simp [Bnd.ok, nl_0])
def RB0 : Env := { ct := fun n => match n with | 55 => some guessC | 50 => some oneC | 56 => some sumsC | 57 => some aboveC | _ => none, fn := fun _ => none, meth := fun _ _ => none }
theorem RB0_ct55 : RB0.ct 55 = some guessC := rfl
theorem RB0_ct50 : RB0.ct 50 = some oneC := rfl
theorem RB0_ct56 : RB0.ct 56 = some sumsC := rfl
theorem RB0_ct57 : RB0.ct 57 = some aboveC := rfl
theorem RB0_ok : EnvOk Try.prog RB0 := by
  refine ⟨fun f c h => ?_, fun f vf h => ?_, (fun _ _ _ h => by cases h), by kernel_rfl, (fun _ h => by cases h)⟩
  · simp only [RB0] at h
    split at h
    · cases h; exact ⟨guess_c, Try.f55, Try.func55, by kernel_rfl, by kernel_rfl⟩
    · cases h; exact ⟨one_c, Try.f50, Try.func50, by kernel_rfl, by kernel_rfl⟩
    · cases h; exact ⟨sums_c, Try.f56, Try.func56, by kernel_rfl, by kernel_rfl⟩
    · cases h; exact ⟨above_c, Try.f57, Try.func57, by kernel_rfl, by kernel_rfl⟩
    · cases h
  · cases h
theorem sign_c : signC.ok Try.prog 48 := by
  refine contract Try.func48 v48_is RB0_ok 500 signC fun args k h => ?_
  simp only [signC] at h
  split at h
  · rename_i tt z n sz get
    obtain ⟨l, ⟨⟨rfl, rfl, hg⟩, hl, hn⟩, h⟩ := h
    refine ⟨[.vs tt z l.length 2 (fun k => enc2 (l.getD k default))], ⟨⟨id, rfl, rfl, rfl, hg⟩, trivial⟩, ?_⟩
    dsimp only [v48, RB0_ct55, RB0_ct50, guessC, oneC, enc2, go_sem, reduceIte]
    simp only [t_all, forall_const, ne_eq, implies_true, Nat.reduceAdd, Nat.reduceLeDiff, reduceCtorEq, Nat.reduceEqDiff]
    have hself : lsP 2 enc2 l.length 2 (fun k => [SV.int IntKind.i64 (l.getD k default).fst, SV.int IntKind.i64 (l.getD k default).snd]) l := ⟨rfl, rfl, fun k _ => leXL_self _⟩
    refine ⟨l, ⟨hself, hl, by omega⟩, by decide, by decide, fun hc => ?_, fun hc => ⟨l, ⟨hself, hl, hn⟩, fun hd => ?_, fun hd => ?_⟩⟩
    · rw [signF, if_pos hc] at h; exact ans_int h
    · rw [signF, if_neg (by rw [hc]; decide), if_pos hd] at h; exact ans_int h
    · rw [signF, if_neg (by rw [hc]; decide), if_neg (by rw [hd]; decide)] at h
      obtain ⟨R, hR⟩ : ∃ R, R = signL 6 l 64 := ⟨_, rfl⟩
      rw [← hR] at h
      refine Loop.keep [0] (Nat × Nat) (fun s => [(5, .int .i64 s.2)]) (fun _ => []) [] (fun s => R = signL s.1 l s.2 ∧ s.2 * 2 ^ s.1 = 4096 ∧ 64 ≤ s.2) (fun s => s.1) ?_ ?_
      · refine ⟨(6, 64), ⟨hR, by decide, by decide⟩, ?_⟩
        dsimp only [go_sem, reduceIte]
        simp only [fin_all, imp_self, implies_true, true_and, and_true]
        rfl
      · rintro ⟨f, p⟩ ⟨hf, hp, hp64⟩
        dsimp only at hf hp hp64
        dsimp only [RB0_ct56, RB0_ct57, sumsC, aboveC, natS, go_sem, reduceIte]
        simp only [t_all, forall_const, ne_eq, implies_true, Nat.reduceAdd, Nat.reduceLeDiff, reduceCtorEq, Nat.reduceEqDiff]
        obtain ⟨k1, k2, k3, k4⟩ := sumsF_ok l p
        have hfd : p ≤ 2048 → ∃ g, f = g + 1 := fun hpl => by
          rcases Nat.eq_zero_or_pos f with h0 | h0
          · rw [h0, Nat.pow_zero, Nat.mul_one] at hp; omega
          · exact ⟨f - 1, by omega⟩
        have hf0 : ¬ p ≤ 2048 → f = 0 := fun hpl => by
          rcases Nat.eq_zero_or_pos f with h0 | h0
          · exact h0
          · obtain ⟨g, rfl⟩ : ∃ g, f = g + 1 := ⟨f - 1, by omega⟩
            rw [Nat.pow_succ] at hp
            have : 1 ≤ 2 ^ g := p2_pos g
            have : p * 2 ≤ p * (2 ^ g * 2) := Nat.mul_le_mul_left _ (by omega)
            omega
        refine ⟨fun hc => ⟨l, p, ⟨hself, hl, by omega, rfl, by omega⟩, fun y1 y2 y3 y4 => ⟨by decide, by decide, (sumsF l p).ul, (sumsF l p).dh, ⟨okW_nl k1, okW_nl k4⟩, fun hd => ?_, fun hd => ⟨(sumsF l p).dl, (sumsF l p).uh, ⟨okW_nl k3, okW_nl k2⟩, fun he => ?_, fun he => ?_⟩⟩⟩, fun hc => ?_⟩
        · obtain ⟨g, rfl⟩ := hfd (by omega)
          rw [signL, if_pos hd] at hf
          rw [hf] at h; exact ans_int h
        · obtain ⟨g, rfl⟩ := hfd (by omega)
          rw [signL, if_neg hd, if_pos he] at hf
          rw [hf] at h; exact ans_int h
        · obtain ⟨g, rfl⟩ := hfd (by omega)
          rw [signL, if_neg hd, if_neg he] at hf
          rw [Nat.pow_succ] at hp
          have hp2 : 2 * p * 2 ^ g = 4096 := by rw [← hp, Nat.mul_comm 2 p, Nat.mul_assoc, Nat.mul_comm 2]
          refine ⟨(g, 2 * p), ⟨hf, hp2, by simp only; omega⟩, by simp only; omega, ?_⟩
          rw [show IntKind.i64.wrap ((p : Int) * 2) = ((2 * p : Nat) : Int) by rw [IntWalk.i64_in _ (by omega)]; omega]
          simp only [fin_all, imp_self, implies_true, true_and, and_true]
        · obtain rfl := hf0 (by omega)
          rw [signL] at hf
          rw [hf] at h; exact ans_int h
  · exact h.1.elim
def RB1 : Env := { ct := fun _ => none, fn := fun _ => none, meth := fun _ _ => none }
theorem RB1_ok : EnvOk Try.prog RB1 := by
  refine ⟨fun f c h => ?_, fun f vf h => ?_, (fun _ _ _ h => by cases h), by kernel_rfl, (fun _ h => by cases h)⟩
  · cases h
  · cases h
theorem chkT_c : chkTC.ok Try.prog 45 := by
  refine contract Try.func45 v45_is RB1_ok 500 chkTC fun args k h => ?_
  simp only [chkTC] at h
  split at h
  · rename_i tt z n sz get
    obtain ⟨l, ⟨⟨rfl, rfl, hg⟩, hn⟩, h⟩ := h
    refine ⟨[.vs tt z l.length 2 (fun k => enc2 (l.getD k default))], ⟨⟨id, rfl, rfl, rfl, hg⟩, trivial⟩, ?_⟩
    dsimp only [v45, enc2, go_sem, reduceIte]
    simp only [t_all, forall_const, ne_eq, implies_true, Nat.reduceAdd, Nat.reduceLeDiff, reduceCtorEq, Nat.reduceEqDiff]
    refine ⟨fun hc => ?_, fun hc => ?_⟩
    · rw [chkTF, if_pos (by omega)] at h; exact ans_int h
    · rw [chkTF, if_neg (by omega)] at h
      refine Loop.keep [0, 7, 0] Nat (fun i => [(10, .int .i64 i)]) (fun _ => []) [] (fun i => i ≤ l.length ∧ (l.take i).any okT0 = false) (fun i => l.length - i) ?_ ?_
      · refine ⟨0, ⟨by omega, rfl⟩, ?_⟩
        dsimp only [go_sem, reduceIte]
        simp only [fin_all, imp_self, implies_true, true_and, and_true]
        rfl
      · rintro i ⟨hi, hall⟩
        dsimp only [enc2, Int.toNat_natCast, go_sem, reduceIte]
        simp only [t_all, forall_const, ne_eq, implies_true, Nat.reduceAdd, Nat.reduceLeDiff, reduceCtorEq, Nat.reduceEqDiff]
        refine ⟨fun hlt => ⟨⟨by omega, by omega⟩, fun hc => ?_, fun hc => ⟨i + 1, ⟨by omega, ?_⟩, by omega, ?_⟩⟩, fun hge => ?_⟩
        · have : l.any okT0 = true := List.any_eq_true.2 ⟨_, getD_mem (by omega : i < l.length), hc⟩
          rw [if_pos this] at h
          exact ans_int h
        · rw [take_any_succ (by omega), hall, Bool.false_or]; exact hc
        · rw [IntWalk.i64_in ((i : Int) + 1) (by omega)]
          simp only [fin_all, imp_self, implies_true, true_and, and_true]
          simp
        · obtain rfl : i = l.length := by omega
          rw [List.take_length] at hall
          rw [if_neg (by rw [hall]; decide)] at h
          exact ans_int h
  · exact h.1.elim
end Go.Proofs.Ytijadllhfgajlaa
set_option linter.all false
namespace Go.Proofs.Ytijadllhfgajlaa
open Go Go.Vx
set_option maxRecDepth 100000
set_option maxHeartbeats 4000000
def v41 : VF := { ntmps := 54, res := [.tmp 6, .tmp 7, .tmp 8], body :=
 (.seq (.region [u1 5 .box [.tm 2],
 u1 6 .mov [.cn (.int .i64 0)],
 u1 7 .mov [.cn (.bool false)],
 u1 8 .mov [.cn (.int .i64 0)]])
 (.seq (.seq (.region [u1 13 .mov [.tm 1],
 u1 14 (.call 45) [.tm 13],
 u1 9 .mov [.tm 14]])
 (.seq (.region [u1 15 .mov [.tm 9],
 u1 16 (.cmp .neq) [.tm 15, .cn (.int .i64 0)]])
 (.cond (.tm 16) (.seq (.region [u1 17 .mov [.tm 9],
 u1 6 .mov [.cn (.int .i64 0)],
 u1 7 .mov [.cn (.bool false)],
 u1 8 .mov [.tm 17]])
 .ret)
  .skip)))
 (.seq (.seq (.region [u1 18 (.load false 1) [.tm 5],
 u1 19 (.cmp .lss) [.tm 18, .cn (.int .i64 1)],
 u1 20 .mov [.tm 19],
 u2 21 20 false (.load false 1) [.tm 5],
 u2 22 20 false (.cmp .gtr) [.tm 21, .cn (.int .i64 1000000)],
 u1 23 .or [.tm 20, .tm 22],
 u1 24 .mov [.tm 23],
 u2 25 24 false .mov [.tm 0],
 u2 26 24 false (.cmp .lss) [.tm 25, .cn (.int .i64 1)],
 u1 27 .or [.tm 24, .tm 26],
 u1 28 .mov [.tm 27],
 u2 29 28 false .mov [.tm 0],
 u2 30 28 false (.cmp .gtr) [.tm 29, .cn (.int .i64 1000000000000)],
 u1 31 .or [.tm 28, .tm 30]])
 (.cond (.tm 31) (.seq (.region [u1 6 .mov [.cn (.int .i64 0)],
 u1 7 .mov [.cn (.bool false)],
 u1 8 .mov [.cn (.int .i64 2)]])
 .ret)
  .skip))
 (.seq (.drawT [(10, .box [.nil])] (.ops [w1 32 .mov [.tm 1]] (.ops [w1 34 .mov [.tm 0]] (.ops [w1 35 (.load false 1) [.tm 5]] (.ops [w1 36 (.build [(.int .i64 0), (.int .i64 0)] [(0, 1), (1, 1)]) [.tm 34, .tm 35]] (.ops [] (.br (.ops [⟨u1 33 (.append 2 16 [(.int .i64 0), (.int .i64 0)]) [.cn .nil, .tm 32], [.tm 0, .tm 34, .tm 5, .tm 35, .tm 34, .tm 35, .tm 36]⟩] (.ops [w1 37 (.buildSlice 2 1 [(.int .i64 0), (.int .i64 0)] [(0, 2)]) [.tm 36]] (.ops [w1 38 (.append 2 16 [(.int .i64 0), (.int .i64 0)]) [.tm 33, .tm 37]] (.ops [w0 (.store 1) [.tm 10, .tm 38]] .leaf))))
 (.ops [w1 37 (.buildSlice 2 1 [(.int .i64 0), (.int .i64 0)] [(0, 2)]) [.tm 36]] (.ops [⟨u1 33 (.append 2 16 [(.int .i64 0), (.int .i64 0)]) [.cn .nil, .tm 32], [.tm 0, .tm 34, .tm 5, .tm 35, .tm 34, .tm 35, .tm 36]⟩] (.ops [w1 38 (.append 2 16 [(.int .i64 0), (.int .i64 0)]) [.tm 33, .tm 37]] (.ops [w0 (.store 1) [.tm 10, .tm 38]] .leaf)))))))))))
 (.seq (.region [u1 39 (.mkfn (.func 46) 0) [.tm 10, .tm 5],
 u1 11 (.alloc [(.val .nilFunc)]) [],
 u0 (.store 1) [.tm 11, .tm 39]])
 (.seq (.region [u1 40 (.mkfn (.func 47) 0) [.tm 11],
 u1 12 .mov [.tm 40]])
 (.seq (.seq (.region [u1 41 .mov [.tm 12],
 u1 42 .callv [.tm 41, .cn (.int .i64 1000000000001)]])
 (.cond (.tm 42) (.seq (.region [u1 6 .mov [.cn (.int .i64 0)],
 u1 7 .mov [.cn (.bool false)],
 u1 8 .mov [.cn (.int .i64 7)]])
 .ret)
  .skip))
 (.seq (.region [u1 43 .mov [.tm 12],
 u1 44 (.call 49) [.cn (.int .i64 0), .cn (.int .i64 1000000000001), .tm 43],
 u1 6 .mov [.tm 44]])
 (.seq (.region [u1 45 .mov [.tm 6],
 u1 46 .mov [.tm 6],
 u1 47 (.cmp .gtr) [.tm 46, .cn (.int .i64 0)],
 u1 48 .mov [.tm 47],
 u2 49 48 true (.load false 1) [.tm 11],
 u2 50 48 true .mov [.tm 6],
 u2 51 48 true .callv [.tm 49, .tm 50],
 u2 52 48 true (.call 50) [.tm 51],
 u1 53 .and [.tm 48, .tm 52],
 u1 6 .mov [.tm 45],
 u1 7 .mov [.tm 53],
 u1 8 .mov [.cn (.int .i64 0)]])
 .ret))))))))) }
theorem v41_is : vfunc Try.prog Try.f41 = some v41 := by kernel_rfl
def v46 : VF := { ntmps := 17, res := [.tmp 4], body :=
 (.seq (.region [u1 4 .mov [.cn .nil]])
 (.seq (.draw [] [w1 5 (.load false 1) [.tm 1],
 w1 6 (.load false 1) [.tm 1],
 w1 7 .len [.tm 6],
 w1 8 (.load false 1) [.tm 1],
 w1 9 .len [.tm 8],
 w1 10 (.slice3 2) [.tm 5, .tm 7, .tm 9],
 w1 11 .mov [.tm 0],
 w1 12 (.load false 1) [.tm 2],
 w1 13 .neg [.tm 12],
 w1 14 (.build [(.int .i64 0), (.int .i64 0)] [(0, 1), (1, 1)]) [.tm 11, .tm 13],
 w1 15 (.buildSlice 2 1 [(.int .i64 0), (.int .i64 0)] [(0, 2)]) [.tm 14],
 w1 16 (.append 2 16 [(.int .i64 0), (.int .i64 0)]) [.tm 10, .tm 15],
 w1 4 .mov [.tm 16]])
 .ret)) }
theorem v46_is : vfunc Try.prog Try.f46 = some v46 := by kernel_rfl
def v47 : VF := { ntmps := 13, res := [.tmp 3], body :=
 (.seq (.region [u1 3 .mov [.cn (.bool false)]])
 (.seq (.region [u1 4 .mov [.tm 0],
 u1 5 (.cmp .eql) [.tm 4, .cn (.int .i64 0)],
 u1 6 .mov [.tm 5],
 u2 7 6 false (.load false 1) [.tm 1],
 u2 8 6 false .mov [.tm 0],
 u2 9 6 false .callv [.tm 7, .tm 8],
 u2 10 6 false (.call 48) [.tm 9],
 u2 11 6 false (.cmp .geq) [.tm 10, .cn (.int .i64 0)],
 u1 12 .or [.tm 6, .tm 11],
 u1 3 .mov [.tm 12]])
 .ret)) }
theorem v47_is : vfunc Try.prog Try.f47 = some v47 := by kernel_rfl
def v49 : VF := { ntmps := 24, res := [.tmp 6], body :=
 (.seq (.region [u1 6 .mov [.cn (.int .i64 0)]])
 (.seq (.block 0 (.loop (.seq (.seq (.region [u1 8 .mov [.tm 1],
 u1 9 .mov [.tm 0],
 u1 10 (.ari .sub) [.tm 8, .tm 9],
 u1 11 (.cmp .gtr) [.tm 10, .cn (.int .i64 1)]])
 (.cond (.tm 11) .skip
  (.exit 0)))
 (.block 1 (.seq (.region [u1 12 .mov [.tm 0],
 u1 13 .mov [.tm 1],
 u1 14 .mov [.tm 0],
 u1 15 (.ari .sub) [.tm 13, .tm 14],
 u1 16 .quo [.tm 15, .cn (.int .i64 2)],
 u1 17 (.ari .add) [.tm 12, .tm 16],
 u1 7 .mov [.tm 17]])
 (.seq (.region [u1 18 .mov [.tm 2],
 u1 19 .mov [.tm 7],
 u1 20 .callv [.tm 18, .tm 19]])
 (.cond (.tm 20) (.region [u1 21 .mov [.tm 7],
 u1 0 .mov [.tm 21]])
  (.region [u1 22 .mov [.tm 7],
 u1 1 .mov [.tm 22]]))))))))
 (.seq (.region [u1 23 .mov [.tm 0],
 u1 6 .mov [.tm 23]])
 .ret))) }
theorem v49_is : vfunc Try.prog Try.f49 = some v49 := by kernel_rfl
def bisL : Nat → (Int → Bool) → Int → Int → Int
  | 0, _, a, _ => a
  | f + 1, t, a, b => if 1 < b - a then (if t (a + (b - a) / 2) = true then bisL f t (a + (b - a) / 2) b else bisL f t a (a + (b - a) / 2)) else a
def atF (all : List (Int × Int)) (den k : Int) : List (Int × Int) := all ++ [(k, -den)]
def isF (all : List (Int × Int)) (den k : Int) : Bool := decide (k = 0) || decide (0 ≤ signF (atF all den k))
def prodF (s : Int) (l : List (Int × Int)) (den : Int) : Int × Bool × Int :=
  if isF (l ++ [(s, den)]) den 1000000000001 = true then (0, false, 7)
  else (bisL 64 (isF (l ++ [(s, den)]) den) 0 1000000000001, decide (0 < bisL 64 (isF (l ++ [(s, den)]) den) 0 1000000000001) && oneF (atF (l ++ [(s, den)]) den (bisL 64 (isF (l ++ [(s, den)]) den) 0 1000000000001)), 0)
def prodC : Ctr := { alias := false, of := fun l => match l with
  | [.int .i64 s, .vs _ _ n sz get, .int .i64 den] => .ex (List (Int × Int)) fun l => .pre (lsP 2 enc2 n sz get l ∧ (∀ x, x ∈ l → okT0 x = false) ∧ n ≤ 16 ∧ 1 ≤ n ∧ (1 ≤ s ∧ s ≤ 1000000000000) ∧ 1 ≤ den ∧ den ≤ 1000000) (.fin (.tup [.int .i64 (prodF s l den).1, .bool (prodF s l den).2.1, .int .i64 (prodF s l den).2.2]) [])
  | _ => noC }
theorem at_get {l : List (Int × Int)} {s den kk : Int} {hp : List HO} {r : List SV → List SV} {i k : Nat} (hk : k < l.length + 1 + 1) :
    leXL (viewL false hp r (if k < l.length + 1 then if k < l.length then [SV.int IntKind.i64 (l.getD k default).fst, SV.int IntKind.i64 (l.getD k default).snd] else purgeL i (takeL 2 (dropL ((k - l.length) * 2) [SV.int IntKind.i64 s, SV.int IntKind.i64 den])) else takeL 2 (dropL ((k - (l.length + 1)) * 2) [SV.int IntKind.i64 kk, SV.int IntKind.i64 (-den)]))) (enc2 ((atF (l ++ [(s, den)]) den kk).getD k default)) := by
  unfold atF
  rw [List.append_assoc]
  by_cases h1 : k < l.length
  · rw [if_pos (by omega), if_pos h1, List.getD_eq_getElem?_getD (l := _ ++ _), List.getElem?_append_left h1, ← List.getD_eq_getElem?_getD]
    exact leXL_self _
  · rw [List.getD_eq_getElem?_getD (l := _ ++ _), List.getElem?_append_right (by omega), if_neg h1]
    by_cases h2 : k < l.length + 1
    · rw [if_pos h2, show k - l.length = 0 by omega]
      exact leXL_self _
    · rw [if_neg h2, show k - (l.length + 1) = 0 by omega, show k - l.length = 1 by omega]
      exact leXL_self _
theorem self1 {l : List (Int × Int)} {s den : Int} {i k a b : Nat} (hk : k < l.length + 1) : leL a b (if k < l.length then [SV.int IntKind.i64 (l.getD k default).fst, SV.int IntKind.i64 (l.getD k default).snd] else purgeL i (takeL 2 (dropL ((k - l.length) * 2) [SV.int IntKind.i64 s, SV.int IntKind.i64 den]))) (if k < l.length then [SV.int IntKind.i64 (l.getD k default).fst, SV.int IntKind.i64 (l.getD k default).snd] else purgeL i (takeL 2 (dropL ((k - l.length) * 2) [SV.int IntKind.i64 s, SV.int IntKind.i64 den]))) := by
  by_cases h1 : k < l.length
  · rw [if_pos h1]; exact ⟨⟨rfl, rfl⟩, ⟨rfl, rfl⟩, trivial⟩
  · rw [if_neg h1, show k - l.length = 0 by omega]; exact ⟨⟨rfl, rfl⟩, ⟨rfl, rfl⟩, trivial⟩
theorem self2 {s den : Int} {i k a b : Nat} (hk : k < 1) : leL a b (purgeL i (takeL 2 (dropL (k * 2) [SV.int IntKind.i64 s, SV.int IntKind.i64 den]))) (purgeL i (takeL 2 (dropL (k * 2) [SV.int IntKind.i64 s, SV.int IntKind.i64 den]))) := by
  obtain rfl : k = 0 := by omega
  exact ⟨⟨rfl, rfl⟩, ⟨rfl, rfl⟩, trivial⟩
theorem self3 {l : List (Int × Int)} {s den kk dd : Int} {i k a b : Nat} (hk : k < l.length + 1 + 1) : leL a b (if k < l.length + 1 then if k < l.length then [SV.int IntKind.i64 (l.getD k default).fst, SV.int IntKind.i64 (l.getD k default).snd] else purgeL i (takeL 2 (dropL ((k - l.length) * 2) [SV.int IntKind.i64 s, SV.int IntKind.i64 den])) else takeL 2 (dropL ((k - (l.length + 1)) * 2) [SV.int IntKind.i64 kk, SV.int IntKind.i64 dd])) (if k < l.length + 1 then if k < l.length then [SV.int IntKind.i64 (l.getD k default).fst, SV.int IntKind.i64 (l.getD k default).snd] else purgeL i (takeL 2 (dropL ((k - l.length) * 2) [SV.int IntKind.i64 s, SV.int IntKind.i64 den])) else takeL 2 (dropL ((k - (l.length + 1)) * 2) [SV.int IntKind.i64 kk, SV.int IntKind.i64 dd])) := by
  by_cases h1 : k < l.length + 1
  · rw [if_pos h1]; exact self1 h1
  · rw [if_neg h1, show k - (l.length + 1) = 0 by omega]; exact ⟨⟨rfl, rfl⟩, ⟨rfl, rfl⟩, trivial⟩
theorem at_ls {l : List (Int × Int)} {s den kk : Int} {hp : List HO} {r : List SV → List SV} {i : Nat} :
    lsP 2 enc2 (l.length + 1 + 1) 2 (fun k => viewL false hp r (if k < l.length + 1 then if k < l.length then [SV.int IntKind.i64 (l.getD k default).fst, SV.int IntKind.i64 (l.getD k default).snd] else purgeL i (takeL 2 (dropL ((k - l.length) * 2) [SV.int IntKind.i64 s, SV.int IntKind.i64 den])) else takeL 2 (dropL ((k - (l.length + 1)) * 2) [SV.int IntKind.i64 kk, SV.int IntKind.i64 (-den)]))) (atF (l ++ [(s, den)]) den kk) :=
  ⟨rfl, by simp [atF], fun k hk => at_get hk⟩
theorem at_ok {l : List (Int × Int)} {s den kk : Int} (hl : ∀ x, x ∈ l → okT0 x = false) (hs : 1 ≤ s ∧ s ≤ 1000000000000) (hd : 1 ≤ den ∧ den ≤ 1000000) (hk : 1 ≤ kk ∧ kk ≤ 1000000000001) : ∀ x, x ∈ atF (l ++ [(s, den)]) den kk → okT x := by
  intro x hx
  unfold atF at hx
  rw [List.mem_append, List.mem_append, List.mem_singleton, List.mem_singleton] at hx
  rcases hx with (hx | rfl) | rfl
  · have := hl x hx
    unfold okT0 at this
    simp only [Bool.or_eq_false_iff, decide_eq_false_iff_not] at this
    unfold okT
    omega
  · simp only [okT]; omega
  · simp only [okT]; omega
theorem at_len {l : List (Int × Int)} {s den : Int} {i k : Nat} (hk : k < l.length + 1) : lenL (if k < l.length then [SV.int IntKind.i64 (l.getD k default).fst, SV.int IntKind.i64 (l.getD k default).snd] else purgeL i (takeL 2 (dropL ((k - l.length) * 2) [SV.int IntKind.i64 s, SV.int IntKind.i64 den]))) = 2 ∧ ones (if k < l.length then [SV.int IntKind.i64 (l.getD k default).fst, SV.int IntKind.i64 (l.getD k default).snd] else purgeL i (takeL 2 (dropL ((k - l.length) * 2) [SV.int IntKind.i64 s, SV.int IntKind.i64 den]))) := by
  by_cases h1 : k < l.length
  · rw [if_pos h1]; exact ⟨rfl, trivial, trivial, trivial⟩
  · rw [if_neg h1, show k - l.length = 0 by omega]; exact ⟨rfl, trivial, trivial, trivial⟩
theorem one_len {a b : Int} {k : Nat} (hk : k < 1) : lenL (takeL 2 (dropL (k * 2) [SV.int IntKind.i64 a, SV.int IntKind.i64 b])) = 2 ∧ ones (takeL 2 (dropL (k * 2) [SV.int IntKind.i64 a, SV.int IntKind.i64 b])) := by
  obtain rfl : k = 0 := by omega
  exact ⟨rfl, trivial, trivial, trivial⟩
def RB2 : Env := { ct := fun n => match n with | 45 => some chkTC | 48 => some signC | 50 => some oneC | _ => none, fn := fun n => match n with | 46 => some v46 | 47 => some v47 | 49 => some v49 | _ => none, meth := fun _ _ => none }
theorem RB2_ct45 : RB2.ct 45 = some chkTC := rfl
theorem RB2_ct48 : RB2.ct 48 = some signC := rfl
theorem RB2_ct50 : RB2.ct 50 = some oneC := rfl
theorem RB2_ct46 : RB2.ct 46 = none := rfl
theorem RB2_fn46 : RB2.fn 46 = some v46 := rfl
theorem RB2_ct47 : RB2.ct 47 = none := rfl
theorem RB2_fn47 : RB2.fn 47 = some v47 := rfl
theorem RB2_ct49 : RB2.ct 49 = none := rfl
theorem RB2_fn49 : RB2.fn 49 = some v49 := rfl
theorem RB2_ok : EnvOk Try.prog RB2 := by
  refine ⟨fun f c h => ?_, fun f vf h => ?_, (fun _ _ _ h => by cases h), by kernel_rfl, (fun _ h => by cases h)⟩
  · simp only [RB2] at h
    split at h
    · cases h; exact ⟨chkT_c, Try.f45, Try.func45, by kernel_rfl, by kernel_rfl⟩
    · cases h; exact ⟨sign_c, Try.f48, Try.func48, by kernel_rfl, by kernel_rfl⟩
    · cases h; exact ⟨one_c, Try.f50, Try.func50, by kernel_rfl, by kernel_rfl⟩
    · cases h
  · simp only [RB2] at h
    split at h
    · cases h; exact ⟨Try.f46, Try.func46, v46_is, Try.f46, Try.func46, by kernel_rfl, by kernel_rfl⟩
    · cases h; exact ⟨Try.f47, Try.func47, v47_is, Try.f47, Try.func47, by kernel_rfl, by kernel_rfl⟩
    · cases h; exact ⟨Try.f49, Try.func49, v49_is, Try.f49, Try.func49, by kernel_rfl, by kernel_rfl⟩
    · cases h
theorem ans_pw {k : SV → List HO → Prop} {al : Bool} {hp : List HO} {κ κ' : IntKind} {x e : Int} {b : Bool} (h : k (.tup [.int κ x, .bool b, .int κ' e]) []) : answers al k (.tup [.int κ x, .bool b, .int κ' e]) hp :=
  ans_le (show k _ [] from h) (le_self (.tup [.int κ x, .bool b, .int κ' e]) ⟨trivial, trivial, trivial, trivial⟩) (fun _ => by simp [freshS, freshL])
theorem prod_c : prodC.ok Try.prog 41 := by
  refine contract Try.func41 v41_is RB2_ok 800 prodC fun args k h => ?_
  simp only [prodC] at h
  split at h
  · rename_i s tt z n sz get den
    obtain ⟨l, ⟨⟨rfl, rfl, hg⟩, hl, hn, hn1, hs, hd⟩, h⟩ := h
    refine ⟨[.int .i64 s, .vs tt z l.length 2 (fun k => enc2 (l.getD k default)), .int .i64 den], ⟨⟨rfl, rfl⟩, ⟨id, rfl, rfl, rfl, hg⟩, ⟨rfl, rfl⟩, trivial⟩, ?_⟩
    dsimp only [v41, RB2_ct45, chkTC, enc2, go_sem, reduceIte]
    simp only [t_all, forall_const, ne_eq, implies_true, Nat.reduceAdd, Nat.reduceLeDiff, reduceCtorEq, Nat.reduceEqDiff]
    have hnd : IntKind.i64.wrap (0 - den) = -den := by rw [IntWalk.i64_in _ (by omega)]; omega
    have hchk : chkTF l = 0 := by
      have : l.any okT0 = false := by rw [List.any_eq_false]; exact fun x hx => by rw [hl x hx]; decide
      rw [chkTF, if_neg (by omega), if_neg (by rw [this]; decide)]
    refine ⟨l, ⟨⟨rfl, rfl, fun k _ => leXL_self _⟩, by omega⟩, fun hh => absurd hchk hh, fun _ => ⟨fun hh => ?_, fun _ => ⟨⟨by unfold capOk; omega, by decide, ⟨by unfold capOk; omega, fun k hk => ?_⟩, ?_⟩, by decide, by unfold capOk; omega, ⟨by unfold capOk; omega, fun k hk => ?_⟩, ?_⟩⟩⟩
    · rw [decide_eq_false (by omega : ¬ den < 1), decide_eq_false (by omega : ¬ 1000000 < den), decide_eq_false (by omega : ¬ s < 1), decide_eq_false (by omega : ¬ 1000000000000 < s)] at hh
      cases hh
    · exact one_len hk
    · dsimp only [RB2_ct47, RB2_fn47, v47, RB2_ct46, RB2_fn46, v46, RB2_ct48, signC, go_sem, reduceIte]
      simp only [t_all, forall_const, ne_eq, implies_true, Nat.reduceAdd, Nat.reduceLeDiff, reduceCtorEq, Nat.reduceEqDiff]
      rw [hnd]
      simp only [Int.toNat_natCast]
      have hK : (1 : Int) ≤ 1000000000001 ∧ (1000000000001 : Int) ≤ 1000000000001 := by decide
      refine ⟨fun _ => ⟨⟨by omega, by omega⟩, by decide, ⟨by decide, by unfold capOk; omega, fun k hk => at_len hk, fun k hk => one_len hk⟩, atF (l ++ [(s, den)]) den 1000000000001, fun _ => ⟨at_ls, at_ok hl hs ⟨hd.1, hd.2⟩ hK, by omega⟩, fun hc => ?_, fun hc => ?_⟩, fun hh => absurd hh (by decide)⟩
      · have hc : isF (l ++ [(s, den)]) den 1000000000001 = true := hc
        rw [prodF, if_pos hc] at h
        exact ans_pw h
      · have hc : isF (l ++ [(s, den)]) den 1000000000001 = false := hc
        rw [prodF, if_neg (by rw [hc]; decide)] at h
        dsimp only [RB2_ct49, RB2_fn49, v49, go_sem, reduceIte]
        simp only [t_all, forall_const, ne_eq, implies_true, Nat.reduceAdd, Nat.reduceLeDiff, reduceCtorEq, Nat.reduceEqDiff]
        obtain ⟨t, ht⟩ : ∃ t, t = isF (l ++ [(s, den)]) den := ⟨_, rfl⟩
        obtain ⟨R, hR⟩ : ∃ R, R = bisL 64 t 0 1000000000001 := ⟨_, rfl⟩
        rw [← ht, ← hR] at h
        refine Loop.keep [2] (Nat × Int × Int) (fun s => [(0, .int .i64 s.2.1), (1, .int .i64 s.2.2)]) (fun _ => []) [] (fun s => R = bisL s.1 t s.2.1 s.2.2 ∧ 0 ≤ s.2.1 ∧ s.2.1 < s.2.2 ∧ s.2.2 ≤ 1000000000001 ∧ s.2.2 - s.2.1 ≤ 2 ^ s.1) (fun s => s.1) ?_ ?_
        · refine ⟨(64, 0, 1000000000001), ⟨hR, by decide, by decide, by decide, by decide⟩, ?_⟩
          dsimp only [go_sem, reduceIte]
          simp only [fin_all, imp_self, implies_true, true_and, and_true]
          repeat' apply And.intro
          all_goals first | decide | (intro k hk; first | exact self1 hk | exact self2 hk | exact self3 hk)
        · rintro ⟨f, lo, hi⟩ ⟨hf, b0, b1, b2, b3⟩
          dsimp only at hf b0 b1 b2 b3
          dsimp only [RB2_ct47, RB2_fn47, v47, RB2_ct46, RB2_fn46, v46, RB2_ct48, RB2_ct50, signC, oneC, go_sem, reduceIte]
          simp only [t_all, forall_const, ne_eq, implies_true, Nat.reduceAdd, Nat.reduceLeDiff, reduceCtorEq, Nat.reduceEqDiff]
          rw [hnd]
          simp only [Int.toNat_natCast]
          have ed : IntKind.i64.wrap (hi - lo) = hi - lo := IntWalk.i64_in _ (by omega)
          have e2 : IntKind.i64.wrap ((hi - lo).tdiv 2) = (hi - lo) / 2 := by
            rw [Int.tdiv_eq_ediv_of_nonneg (by omega), IntWalk.i64_in _ (by omega)]
          have e3 : IntKind.i64.wrap (lo + (hi - lo) / 2) = lo + (hi - lo) / 2 := IntWalk.i64_in _ (by omega)
          rw [ed, e2, e3]
          refine ⟨fun hc1 => ?_, fun hc1 => ?_⟩
          · obtain ⟨m, hm⟩ : ∃ m, m = lo + (hi - lo) / 2 := ⟨_, rfl⟩
            rw [← hm]
            obtain ⟨g, rfl⟩ : ∃ g, f = g + 1 := by
              cases f with
              | zero => simp at b3; omega
              | succ g => exact ⟨g, rfl⟩
            rw [bisL, if_pos hc1, ← hm] at hf
            have b4 : hi - lo ≤ 2 ^ g * 2 := by rw [← Int.pow_succ]; exact b3
            have hm0 : ¬ m = 0 := by omega
            refine ⟨by decide, fun _ => ⟨⟨by omega, by omega⟩, by decide, ⟨by decide, by unfold capOk; omega, fun k hk => at_len hk, fun k hk => one_len hk⟩, atF (l ++ [(s, den)]) den m, fun _ => ⟨at_ls, at_ok hl hs ⟨hd.1, hd.2⟩ (by omega), by omega⟩, fun hd1 => ?_, fun hd1 => ?_⟩, fun hh => absurd hh hm0⟩
            · have hd1 : t m = true := by rw [ht]; exact hd1
              rw [if_pos hd1] at hf
              refine ⟨(g, m, hi), ⟨hf, by simp only; omega, by simp only; omega, b2, by simp only; omega⟩, by simp only; omega, ?_⟩
              simp only [fin_all, imp_self, implies_true, true_and, and_true]
              repeat' apply And.intro
              all_goals first | decide | (intro k hk; first | exact self1 hk | exact self2 hk | exact self3 hk)
            · have hd1 : t m = false := by rw [ht]; exact hd1
              rw [if_neg (by rw [hd1]; decide)] at hf
              refine ⟨(g, lo, m), ⟨hf, by simp only; omega, by simp only; omega, by simp only; omega, by simp only; omega⟩, by simp only; omega, ?_⟩
              simp only [fin_all, imp_self, implies_true, true_and, and_true]
              repeat' apply And.intro
              all_goals first | decide | (intro k hk; first | exact self1 hk | exact self2 hk | exact self3 hk)
          · have hRlo : R = lo := by
              cases f with
              | zero => exact hf
              | succ g => rw [hf, bisL, if_neg hc1]
            subst hRlo
            refine ⟨fun hp => ⟨⟨by omega, by omega⟩, by decide, ⟨by decide, by unfold capOk; omega, fun k hk => at_len hk, fun k hk => one_len hk⟩, atF (l ++ [(s, den)]) den R, fun _ => ⟨at_ls, at_ok hl hs ⟨hd.1, hd.2⟩ (by omega), by omega⟩, ans_pw h⟩, fun hp => ⟨fun hh => absurd hh hp, ?_⟩⟩
            rw [decide_eq_false hp, Bool.false_and] at h ⊢
            exact ans_pw h
    · exact one_len hk
    · dsimp only [RB2_ct47, RB2_fn47, v47, RB2_ct46, RB2_fn46, v46, RB2_ct48, signC, go_sem, reduceIte]
      simp only [t_all, forall_const, ne_eq, implies_true, Nat.reduceAdd, Nat.reduceLeDiff, reduceCtorEq, Nat.reduceEqDiff]
      rw [hnd]
      simp only [Int.toNat_natCast]
      have hK : (1 : Int) ≤ 1000000000001 ∧ (1000000000001 : Int) ≤ 1000000000001 := by decide
      refine ⟨fun _ => ⟨⟨by omega, by omega⟩, by decide, ⟨by decide, by unfold capOk; omega, fun k hk => at_len hk, fun k hk => one_len hk⟩, atF (l ++ [(s, den)]) den 1000000000001, fun _ => ⟨at_ls, at_ok hl hs ⟨hd.1, hd.2⟩ hK, by omega⟩, fun hc => ?_, fun hc => ?_⟩, fun hh => absurd hh (by decide)⟩
      · have hc : isF (l ++ [(s, den)]) den 1000000000001 = true := hc
        rw [prodF, if_pos hc] at h
        exact ans_pw h
      · have hc : isF (l ++ [(s, den)]) den 1000000000001 = false := hc
        rw [prodF, if_neg (by rw [hc]; decide)] at h
        dsimp only [RB2_ct49, RB2_fn49, v49, go_sem, reduceIte]
        simp only [t_all, forall_const, ne_eq, implies_true, Nat.reduceAdd, Nat.reduceLeDiff, reduceCtorEq, Nat.reduceEqDiff]
        obtain ⟨t, ht⟩ : ∃ t, t = isF (l ++ [(s, den)]) den := ⟨_, rfl⟩
        obtain ⟨R, hR⟩ : ∃ R, R = bisL 64 t 0 1000000000001 := ⟨_, rfl⟩
        rw [← ht, ← hR] at h
        refine Loop.keep [2] (Nat × Int × Int) (fun s => [(0, .int .i64 s.2.1), (1, .int .i64 s.2.2)]) (fun _ => []) [] (fun s => R = bisL s.1 t s.2.1 s.2.2 ∧ 0 ≤ s.2.1 ∧ s.2.1 < s.2.2 ∧ s.2.2 ≤ 1000000000001 ∧ s.2.2 - s.2.1 ≤ 2 ^ s.1) (fun s => s.1) ?_ ?_
        · refine ⟨(64, 0, 1000000000001), ⟨hR, by decide, by decide, by decide, by decide⟩, ?_⟩
          dsimp only [go_sem, reduceIte]
          simp only [fin_all, imp_self, implies_true, true_and, and_true]
          repeat' apply And.intro
          all_goals first | decide | (intro k hk; first | exact self1 hk | exact self2 hk | exact self3 hk)
        · rintro ⟨f, lo, hi⟩ ⟨hf, b0, b1, b2, b3⟩
          dsimp only at hf b0 b1 b2 b3
          dsimp only [RB2_ct47, RB2_fn47, v47, RB2_ct46, RB2_fn46, v46, RB2_ct48, RB2_ct50, signC, oneC, go_sem, reduceIte]
          simp only [t_all, forall_const, ne_eq, implies_true, Nat.reduceAdd, Nat.reduceLeDiff, reduceCtorEq, Nat.reduceEqDiff]
          rw [hnd]
          simp only [Int.toNat_natCast]
          have ed : IntKind.i64.wrap (hi - lo) = hi - lo := IntWalk.i64_in _ (by omega)
          have e2 : IntKind.i64.wrap ((hi - lo).tdiv 2) = (hi - lo) / 2 := by
            rw [Int.tdiv_eq_ediv_of_nonneg (by omega), IntWalk.i64_in _ (by omega)]
          have e3 : IntKind.i64.wrap (lo + (hi - lo) / 2) = lo + (hi - lo) / 2 := IntWalk.i64_in _ (by omega)
          rw [ed, e2, e3]
          refine ⟨fun hc1 => ?_, fun hc1 => ?_⟩
          · obtain ⟨m, hm⟩ : ∃ m, m = lo + (hi - lo) / 2 := ⟨_, rfl⟩
            rw [← hm]
            obtain ⟨g, rfl⟩ : ∃ g, f = g + 1 := by
              cases f with
              | zero => simp at b3; omega
              | succ g => exact ⟨g, rfl⟩
            rw [bisL, if_pos hc1, ← hm] at hf
            have b4 : hi - lo ≤ 2 ^ g * 2 := by rw [← Int.pow_succ]; exact b3
            have hm0 : ¬ m = 0 := by omega
            refine ⟨by decide, fun _ => ⟨⟨by omega, by omega⟩, by decide, ⟨by decide, by unfold capOk; omega, fun k hk => at_len hk, fun k hk => one_len hk⟩, atF (l ++ [(s, den)]) den m, fun _ => ⟨at_ls, at_ok hl hs ⟨hd.1, hd.2⟩ (by omega), by omega⟩, fun hd1 => ?_, fun hd1 => ?_⟩, fun hh => absurd hh hm0⟩
            · have hd1 : t m = true := by rw [ht]; exact hd1
              rw [if_pos hd1] at hf
              refine ⟨(g, m, hi), ⟨hf, by simp only; omega, by simp only; omega, b2, by simp only; omega⟩, by simp only; omega, ?_⟩
              simp only [fin_all, imp_self, implies_true, true_and, and_true]
              repeat' apply And.intro
              all_goals first | decide | (intro k hk; first | exact self1 hk | exact self2 hk | exact self3 hk)
            · have hd1 : t m = false := by rw [ht]; exact hd1
              rw [if_neg (by rw [hd1]; decide)] at hf
              refine ⟨(g, lo, m), ⟨hf, by simp only; omega, by simp only; omega, by simp only; omega, by simp only; omega⟩, by simp only; omega, ?_⟩
              simp only [fin_all, imp_self, implies_true, true_and, and_true]
              repeat' apply And.intro
              all_goals first | decide | (intro k hk; first | exact self1 hk | exact self2 hk | exact self3 hk)
          · have hRlo : R = lo := by
              cases f with
              | zero => exact hf
              | succ g => rw [hf, bisL, if_neg hc1]
            subst hRlo
            refine ⟨fun hp => ⟨⟨by omega, by omega⟩, by decide, ⟨by decide, by unfold capOk; omega, fun k hk => at_len hk, fun k hk => one_len hk⟩, atF (l ++ [(s, den)]) den R, fun _ => ⟨at_ls, at_ok hl hs ⟨hd.1, hd.2⟩ (by omega), by omega⟩, ans_pw h⟩, fun hp => ⟨fun hh => absurd hh hp, ?_⟩⟩
            rw [decide_eq_false hp, Bool.false_and] at h ⊢
            exact ans_pw h
  · exact h.1.elim
end Go.Proofs.Ytijadllhfgajlaa
set_option linter.all false
namespace Go.Proofs.Ytijadllhfgajlaa
open Go Go.Vx
set_option maxRecDepth 100000
set_option maxHeartbeats 4000000
def v30 : VF := { ntmps := 9, res := [.tmp 2], body :=
 (.seq (.region [u1 2 .mov [.cn (.bool false)]])
 (.seq (.region [u1 3 .mov [.tm 0],
 u1 4 (.cmp .geq) [.tm 3, .cn (.int .i64 (-20000))],
 u1 5 .mov [.tm 4],
 u2 6 5 true .mov [.tm 0],
 u2 7 5 true (.cmp .leq) [.tm 6, .cn (.int .i64 50000)],
 u1 8 .and [.tm 5, .tm 7],
 u1 2 .mov [.tm 8]])
 .ret)) }
theorem v30_is : vfunc Try.prog Try.f30 = some v30 := by kernel_rfl
def v32 : VF := { ntmps := 9, res := [.cell 4 true 2], body :=
 (.seq (.region [u1 4 (.alloc [(.int .i64 0), (.int .i64 0)]) []])
 (.seq (.region [u1 5 .mov [.tm 0],
 u1 6 (.ari .add) [.cn (.int .i64 273150), .tm 5],
 u1 7 .mov [.tm 1],
 u1 8 (.build [(.int .i64 0), (.int .i64 0)] [(0, 1), (1, 1)]) [.tm 6, .tm 7],
 u0 (.store 2) [.tm 4, .tm 8]])
 .ret)) }
theorem v32_is : vfunc Try.prog Try.f32 = some v32 := by kernel_rfl
def v31 : VF := { ntmps := 26, res := [.cell 6 true 2], body :=
 (.seq (.region [u1 6 (.alloc [(.int .i64 0), (.int .i64 0)]) []])
 (.seq (.region [u1 11 .mov [.tm 0],
 u1 12 .mov [.tm 2],
 u1 13 .mov [.tm 1],
 u1 14 (.call 41) [.tm 11, .tm 12, .tm 13],
 u1 10 .mov [.tm 14],
 u1 15 (.ext 0) [.tm 10],
 u1 16 (.ext 1) [.tm 10],
 u1 17 (.ext 2) [.tm 10],
 u1 7 .mov [.tm 15],
 u1 8 .mov [.tm 16],
 u1 9 .mov [.tm 17]])
 (.seq (.seq (.region [u1 18 .mov [.tm 8]])
 (.cond (.tm 18) (.seq (.region [u1 19 .mov [.tm 7],
 u1 20 .mov [.tm 7],
 u1 21 (.build [(.int .i64 0), (.int .i64 0)] [(0, 1), (1, 1)]) [.tm 19, .tm 20],
 u0 (.store 2) [.tm 6, .tm 21]])
 .ret)
  .skip))
 (.seq (.region [u1 22 .mov [.tm 7],
 u1 23 .mov [.tm 7],
 u1 24 (.ari .add) [.tm 23, .cn (.int .i64 1)],
 u1 25 (.build [(.int .i64 0), (.int .i64 0)] [(0, 1), (1, 1)]) [.tm 22, .tm 24],
 u0 (.store 2) [.tm 6, .tm 25]])
 .ret)))) }
theorem v31_is : vfunc Try.prog Try.f31 = some v31 := by kernel_rfl
def v21 : VF := { ntmps := 13, res := [.cell 2 true 2, .tmp 3], body :=
 (.seq (.region [u1 2 (.alloc [(.int .i64 0), (.int .i64 0)]) [],
 u1 3 .mov [.cn (.int .i64 0)]])
 (.seq (.seq (.region [u1 4 .mov [.tm 0],
 u1 5 (.call 30) [.tm 4],
 u1 6 .not [.tm 5]])
 (.cond (.tm 6) (.seq (.region [u1 7 (.build [(.int .i64 0), (.int .i64 0)] []) [],
 u0 (.store 2) [.tm 2, .tm 7],
 u1 3 .mov [.cn (.int .i64 2)]])
 .ret)
  .skip))
 (.seq (.region [u1 8 .mov [.tm 0],
 u1 9 (.call 32) [.tm 8, .cn (.int .i64 1)],
 u1 10 (.call 32) [.cn (.int .i64 0), .cn (.int .i64 (-1))],
 u1 11 (.buildSlice 2 2 [(.int .i64 0), (.int .i64 0)] [(0, 2), (2, 2)]) [.tm 9, .tm 10],
 u1 12 (.call 31) [.cn (.int .i64 331300000), .cn (.int .i64 2), .tm 11],
 u0 (.store 2) [.tm 2, .tm 12],
 u1 3 .mov [.cn (.int .i64 0)]])
 .ret))) }
theorem v21_is : vfunc Try.prog Try.f21 = some v21 := by kernel_rfl
def pspF (s : Int) (l : List (Int × Int)) (den : Int) : Int × Int := if (prodF s l den).2.1 = true then ((prodF s l den).1, (prodF s l den).1) else ((prodF s l den).1, IntKind.i64.wrap ((prodF s l den).1 + 1))
def pspC : Ctr := { alias := false, of := fun l => match l with
  | [.int .i64 s, .int .i64 den, .vs _ _ n sz get] => .ex (List (Int × Int)) fun l => .pre (lsP 2 enc2 n sz get l ∧ (∀ x, x ∈ l → okT0 x = false) ∧ n ≤ 16 ∧ 1 ≤ n ∧ (1 ≤ s ∧ s ≤ 1000000000000) ∧ 1 ≤ den ∧ den ≤ 1000000) (.fin (.agg [.int .i64 (pspF s l den).1, .int .i64 (pspF s l den).2]) [])
  | _ => noC }
def tempOk (t : Int) : Bool := decide (-20000 ≤ t) && decide (t ≤ 50000)
def speedF (t : Int) : (Int × Int) × Int := if tempOk t = true then (pspF 331300000 [(273150 + t, 1), (273150, -1)] 2, 0) else ((0, 0), 2)
def speedC : Ctr := { alias := false, of := fun l => match l with
  | [.int .i64 t] => .fin (.tup [.agg [.int .i64 (speedF t).1.1, .int .i64 (speedF t).1.2], .int .i64 (speedF t).2]) []
  | _ => noC }
theorem ans_ii2 {k : SV → List HO → Prop} {al : Bool} {hp : List HO} {x y : Int} (h : k (.agg [.int .i64 x, .int .i64 y]) []) : answers al k (.agg [.int .i64 x, .int .i64 y]) hp :=
  ans_le (show k _ [] from h) (le_self (.agg [.int .i64 x, .int .i64 y]) ⟨trivial, trivial, trivial⟩) (fun _ => by simp [freshS, freshL])
theorem ans_iie {k : SV → List HO → Prop} {al : Bool} {hp : List HO} {x y e : Int} (h : k (.tup [.agg [.int .i64 x, .int .i64 y], .int .i64 e]) []) : answers al k (.tup [.agg [.int .i64 x, .int .i64 y], .int .i64 e]) hp :=
  ans_le (show k _ [] from h) (le_self (.tup [.agg [.int .i64 x, .int .i64 y], .int .i64 e]) ⟨⟨trivial, trivial, trivial⟩, trivial, trivial⟩) (fun _ => by simp [freshS, freshL])
def RP0 : Env := { ct := fun n => match n with | 41 => some prodC | _ => none, fn := fun _ => none, meth := fun _ _ => none }
theorem RP0_ct41 : RP0.ct 41 = some prodC := rfl
theorem RP0_ok : EnvOk Try.prog RP0 := by
  refine ⟨fun f c h => ?_, fun f vf h => ?_, (fun _ _ _ h => by cases h), by kernel_rfl, (fun _ h => by cases h)⟩
  · simp only [RP0] at h
    split at h
    · cases h; exact ⟨prod_c, Try.f41, Try.func41, by kernel_rfl, by kernel_rfl⟩
    · cases h
  · cases h
theorem psp_c : pspC.ok Try.prog 31 := by
  refine contract Try.func31 v31_is RP0_ok 200 pspC fun args k h => ?_
  simp only [pspC] at h
  split at h
  · rename_i s den tt z n sz get
    obtain ⟨l, ⟨⟨rfl, rfl, hg⟩, hl, hn, hn1, hs, hd⟩, h⟩ := h
    refine ⟨[.int .i64 s, .int .i64 den, .vs tt z l.length 2 (fun k => enc2 (l.getD k default))], ⟨⟨rfl, rfl⟩, ⟨rfl, rfl⟩, ⟨id, rfl, rfl, rfl, hg⟩, trivial⟩, ?_⟩
    dsimp only [v31, RP0_ct41, prodC, enc2, go_sem, reduceIte]
    simp only [t_all, forall_const, ne_eq, implies_true, Nat.reduceAdd, Nat.reduceLeDiff, reduceCtorEq, Nat.reduceEqDiff]
    refine ⟨l, ⟨⟨rfl, rfl, fun k _ => leXL_self _⟩, hl, hn, hn1, hs, hd⟩, by decide, by decide, by decide, fun hc => ?_, fun hc => ?_⟩
    · rw [pspF, if_pos hc] at h; exact ans_ii2 h
    · rw [pspF, if_neg (by rw [hc]; decide)] at h; exact ans_ii2 h
  · exact h.1.elim
def RP1 : Env := { ct := fun n => match n with | 31 => some pspC | _ => none, fn := fun n => match n with | 30 => some v30 | 32 => some v32 | _ => none, meth := fun _ _ => none }
theorem RP1_ct31 : RP1.ct 31 = some pspC := rfl
theorem RP1_ct30 : RP1.ct 30 = none := rfl
theorem RP1_fn30 : RP1.fn 30 = some v30 := rfl
theorem RP1_ct32 : RP1.ct 32 = none := rfl
theorem RP1_fn32 : RP1.fn 32 = some v32 := rfl
theorem RP1_ok : EnvOk Try.prog RP1 := by
  refine ⟨fun f c h => ?_, fun f vf h => ?_, (fun _ _ _ h => by cases h), by kernel_rfl, (fun _ h => by cases h)⟩
  · simp only [RP1] at h
    split at h
    · cases h; exact ⟨psp_c, Try.f31, Try.func31, by kernel_rfl, by kernel_rfl⟩
    · cases h
  · simp only [RP1] at h
    split at h
    · cases h; exact ⟨Try.f30, Try.func30, v30_is, Try.f30, Try.func30, by kernel_rfl, by kernel_rfl⟩
    · cases h; exact ⟨Try.f32, Try.func32, v32_is, Try.f32, Try.func32, by kernel_rfl, by kernel_rfl⟩
    · cases h
theorem speed_c : speedC.ok Try.prog 21 := by
  refine contract Try.func21 v21_is RP1_ok 300 speedC fun args k h => ?_
  simp only [speedC] at h
  split at h
  · rename_i t
    refine ⟨[.int .i64 t], by simp [leL, le], ?_⟩
    dsimp only [v21, RP1_ct31, RP1_ct30, RP1_fn30, v30, RP1_ct32, RP1_fn32, v32, pspC, go_sem, reduceIte]
    simp only [t_all, forall_const, ne_eq, implies_true, Nat.reduceAdd, Nat.reduceLeDiff, reduceCtorEq, Nat.reduceEqDiff]
    refine ⟨fun hc => ?_, fun hc => ⟨by decide, [(273150 + t, 1), (273150, -1)], ⟨?_, ?_, by decide, by decide⟩, ?_⟩⟩
    · rw [speedF, if_neg (show ¬ tempOk t = true from by rw [show tempOk t = false from hc]; decide)] at h
      exact ans_iie h
    · rw [Bool.and_eq_true, decide_eq_true_eq, decide_eq_true_eq] at hc
      have e1 : IntKind.i64.wrap (273150 + t) = 273150 + t := IntWalk.i64_in _ (by omega)
      have e2 : IntKind.i64.wrap (273150 + 0) = 273150 := by decide
      rw [e1, e2]
      refine ⟨rfl, rfl, fun k hk => ?_⟩
      match k, hk with
      | 0, _ => exact leXL_self _
      | 1, _ => exact leXL_self _
    · rw [Bool.and_eq_true, decide_eq_true_eq, decide_eq_true_eq] at hc
      intro x hx
      simp only [List.mem_cons, List.not_mem_nil, or_false] at hx
      rcases hx with rfl | rfl
      · simp only [okT0, Bool.or_eq_false_iff, decide_eq_false_iff_not]; omega
      · decide
    · rw [speedF, if_pos (show tempOk t = true from hc)] at h
      exact ans_iie h
  · exact h.1.elim
end Go.Proofs.Ytijadllhfgajlaa
set_option linter.all false
namespace Go.Proofs.Ytijadllhfgajlaa
open Go Go.Vx
abbrev Iv := Int × Int
def numOk (x : Int) : Bool := decide (-4611686018427387904 ≤ x) && decide (x ≤ 4611686018427387904)
def ivE (l : List Iv) : Int := if l.all (fun a => numOk a.1 && numOk a.2) then (if l.all (fun a => decide (a.1 ≤ a.2)) then 0 else 2) else 7
theorem ivE_bad {l : List Iv} {i : Nat} (h : i < l.length) (hb : (numOk (l.getD i default).1 && numOk (l.getD i default).2) = false) : ivE l = 7 := by
  rw [ivE, if_neg]
  intro hall
  have := List.all_eq_true.1 hall _ (getD_mem h)
  rw [hb] at this; cases this
theorem ivE_2 {l : List Iv} (ha : ∀ j, j < l.length → (numOk (l.getD j default).1 && numOk (l.getD j default).2) = true) {i : Nat} (h : i < l.length) (hb : (l.getD i default).2 < (l.getD i default).1) : ivE l = 2 := by
  rw [ivE, if_pos, if_neg]
  · intro hall
    have := List.all_eq_true.1 hall _ (getD_mem h)
    simp only [decide_eq_true_eq] at this; omega
  · refine List.all_eq_true.2 fun x hx => ?_
    obtain ⟨j, hj, rfl⟩ := mem_getD hx
    exact ha j hj
theorem ivE_0 {l : List Iv} (ha : ∀ j, j < l.length → (numOk (l.getD j default).1 && numOk (l.getD j default).2) = true) (hb : ∀ j, j < l.length → (l.getD j default).1 ≤ (l.getD j default).2) : ivE l = 0 := by
  rw [ivE, if_pos, if_pos]
  · refine List.all_eq_true.2 fun x hx => ?_
    obtain ⟨j, hj, rfl⟩ := mem_getD hx
    simpa using hb j hj
  · refine List.all_eq_true.2 fun x hx => ?_
    obtain ⟨j, hj, rfl⟩ := mem_getD hx
    exact ha j hj
theorem numOk_iff {x : Int} : numOk x = true ↔ -4611686018427387904 ≤ x ∧ x ≤ 4611686018427387904 := by
  simp [numOk]
theorem ivE1 {a : Iv} (h : ivE [a] = 0) : (-4611686018427387904 ≤ a.1 ∧ a.1 ≤ 4611686018427387904) ∧ (-4611686018427387904 ≤ a.2 ∧ a.2 ≤ 4611686018427387904) ∧ a.1 ≤ a.2 := by
  unfold ivE at h
  split at h
  · rename_i h1
    split at h
    · rename_i h2
      simp only [List.all_cons, List.all_nil, Bool.and_true, Bool.and_eq_true, decide_eq_true_eq] at h1 h2
      exact ⟨numOk_iff.1 h1.1, numOk_iff.1 h1.2, h2⟩
    · cases h
  · cases h
theorem ivE2 {a b : Iv} (h : ivE [a, b] = 0) : ((-4611686018427387904 ≤ a.1 ∧ a.1 ≤ 4611686018427387904) ∧ (-4611686018427387904 ≤ a.2 ∧ a.2 ≤ 4611686018427387904) ∧ a.1 ≤ a.2) ∧ (-4611686018427387904 ≤ b.1 ∧ b.1 ≤ 4611686018427387904) ∧ (-4611686018427387904 ≤ b.2 ∧ b.2 ≤ 4611686018427387904) ∧ b.1 ≤ b.2 := by
  unfold ivE at h
  split at h
  · rename_i h1
    split at h
    · rename_i h2
      simp only [List.all_cons, List.all_nil, Bool.and_true, Bool.and_eq_true, decide_eq_true_eq] at h1 h2
      exact ⟨⟨numOk_iff.1 h1.1.1, numOk_iff.1 h1.1.2, h2.1⟩, numOk_iff.1 h1.2.1, numOk_iff.1 h1.2.2, h2.2⟩
    · cases h
  · cases h
def rndT (up : Bool) (x d : Int) : Int := if up then -((-x) / d) else x / d
def rndB (t : Int) : Int × Bool := if -4611686018427387904 ≤ t ∧ t ≤ 4611686018427387904 then (t, true) else (0, false)
def rndF (up : Bool) (x d : Int) : Int × Bool := rndB (rndT up x d)
def spanR (a b : Int × Bool) : Iv × Int := if a.2 && b.2 then ((a.1, b.1), 0) else ((0, 0), 7)
def lowI (x : Int) (r : List Int) : Int := r.foldl (fun low y => if y < low then y else low) x
def highI (x : Int) (r : List Int) : Int := r.foldl (fun high y => if high < y then y else high) x
def spanI (d : Int) (x : Int) (r : List Int) : Iv × Int := spanR (rndF false (lowI x r) d) (rndF true (highI x r) d)
theorem lowI_spec (x : Int) : ∀ (r : List Int), lowI x r ∈ x :: r ∧ ∀ y ∈ x :: r, lowI x r ≤ y := by
  intro r
  induction r generalizing x with
  | nil => exact ⟨List.mem_cons_self, fun y hy => by simp at hy; subst hy; exact Int.le_refl _⟩
  | cons a r ih =>
    have e : lowI x (a :: r) = lowI (if a < x then a else x) r := rfl
    rw [e]
    obtain ⟨h1, h2⟩ := ih (if a < x then a else x)
    have h3 := h2 _ List.mem_cons_self
    generalize lowI (if a < x then a else x) r = L at *
    refine ⟨?_, fun y hy => ?_⟩
    · rcases List.mem_cons.1 h1 with h | h
      · rw [h]; split <;> simp
      · simp [h]
    · rcases List.mem_cons.1 hy with rfl | hy
      · split at h3 <;> omega
      · rcases List.mem_cons.1 hy with rfl | hy
        · split at h3 <;> omega
        · exact h2 _ (List.mem_cons_of_mem _ hy)
theorem highI_spec (x : Int) : ∀ (r : List Int), highI x r ∈ x :: r ∧ ∀ y ∈ x :: r, y ≤ highI x r := by
  intro r
  induction r generalizing x with
  | nil => exact ⟨List.mem_cons_self, fun y hy => by simp at hy; subst hy; exact Int.le_refl _⟩
  | cons a r ih =>
    have e : highI x (a :: r) = highI (if x < a then a else x) r := rfl
    rw [e]
    obtain ⟨h1, h2⟩ := ih (if x < a then a else x)
    have h3 := h2 _ List.mem_cons_self
    generalize highI (if x < a then a else x) r = L at *
    refine ⟨?_, fun y hy => ?_⟩
    · rcases List.mem_cons.1 h1 with h | h
      · rw [h]; split <;> simp
      · simp [h]
    · rcases List.mem_cons.1 hy with rfl | hy
      · split at h3 <;> omega
      · rcases List.mem_cons.1 hy with rfl | hy
        · split at h3 <;> omega
        · exact h2 _ (List.mem_cons_of_mem _ hy)
def bump (up neg : Bool) (r : Nat) : Nat := if decide (r ≠ 0) && (up != neg) then 1 else 0
theorem rnd_abs {up : Bool} {x : Int} {d : Nat} (hd : 0 < d) : rndT up x d = nsg (decide (x < 0)) (x.natAbs / d + bump up (decide (x < 0)) (x.natAbs % d)) := by
  have hm := Nat.mod_lt x.natAbs hd
  have e := Nat.div_add_mod x.natAbs d
  have pos : ∀ n : Nat, (n : Int) / (d : Int) = ((n / d : Nat) : Int) := fun n => (Int.natCast_ediv n d).symm
  have neg : ∀ n : Nat, (-(n : Int)) / (d : Int) = -(((n / d + if n % d = 0 then 0 else 1 : Nat)) : Int) := fun n => by
    have e := Nat.div_add_mod n d
    have hm := Nat.mod_lt n hd
    by_cases h0 : n % d = 0
    · rw [if_pos h0]
      have : (n : Int) = ((n / d : Nat) : Int) * (d : Int) := by
        have : n = n / d * d := by rw [Nat.mul_comm]; omega
        exact_mod_cast this
      conv => lhs; rw [this, ← Int.neg_mul]
      rw [Int.mul_ediv_cancel _ (by omega)]; simp
    · rw [if_neg h0]
      have hq : (n : Int) = (d : Int) * ((n / d : Nat) : Int) + ((n % d : Nat) : Int) := by exact_mod_cast e.symm
      apply Int.le_antisymm
      · apply Int.le_of_lt_add_one
        rw [Int.ediv_lt_iff_lt_mul (by omega)]
        conv => lhs; rw [hq]
        have hm : ((n % d : Nat) : Int) > 0 := by omega
        generalize n % d = m at *
        generalize n / d = q at *
        push_cast
        grind
      · rw [Int.le_ediv_iff_mul_le (by omega)]
        conv => rhs; rw [hq]
        have hm : ((n % d : Nat) : Int) < d := by omega
        generalize n % d = m at *
        generalize n / d = q at *
        push_cast
        grind
  obtain ⟨n, hn⟩ : ∃ n : Nat, n = x.natAbs := ⟨_, rfl⟩
  rw [← hn]
  unfold rndT bump nsg
  by_cases hx : x < 0
  · have ex : x = -(n : Int) := by omega
    cases up
    · simp only [hx, decide_true, if_true, Bool.false_eq_true, if_false]
      rw [ex, neg n]
      by_cases h0 : n % d = 0 <;> simp [h0]
    · simp only [hx, decide_true, if_true, bne_self_eq_false, Bool.and_false, Bool.false_eq_true, if_false]
      rw [ex, Int.neg_neg, pos n]; simp
  · have ex : x = (n : Int) := by omega
    cases up
    · simp only [hx, decide_false, Bool.false_eq_true, if_false, bne_self_eq_false, Bool.and_false]
      rw [ex, pos n]; simp
    · simp only [hx, decide_false, Bool.false_eq_true, if_false, if_true]
      rw [ex, neg n]
      by_cases h0 : n % d = 0 <;> simp [h0]
def longE (v : Int) : List SV := [.bool (decide (v < 0)), .int .u64 ((v.natAbs / 18446744073709551616 : Nat) : Int), .int .u64 ((v.natAbs % 18446744073709551616 : Nat) : Int)]
def longP (x : Int) (n : Bool) (h l : Int) : Prop := n = decide (x < 0) ∧ h = ((x.natAbs / 18446744073709551616 : Nat) : Int) ∧ l = ((x.natAbs % 18446744073709551616 : Nat) : Int)
theorem longP_self (x : Int) : longP x (decide (x < 0)) ((x.natAbs / 18446744073709551616 : Nat) : Int) ((x.natAbs % 18446744073709551616 : Nat) : Int) := ⟨rfl, rfl, rfl⟩
def big (x : Int) : Prop := x.natAbs < 340282366920938463463374607431768211456
def fitF (lo hi : Int) : Iv × Int := if numOk lo && numOk hi then ((lo, hi), 0) else ((0, 0), 7)
def errI (e : Int) : Iv × Int := ((0, 0), e)
def addF (a b : Iv) : Iv × Int := if ivE [a, b] ≠ 0 then errI (ivE [a, b]) else fitF (a.1 + b.1) (a.2 + b.2)
def subF (a b : Iv) : Iv × Int := if ivE [a, b] ≠ 0 then errI (ivE [a, b]) else addF a (-b.2, -b.1)
def mulF (a b : Iv) : Iv × Int := if ivE [a, b] ≠ 0 then errI (ivE [a, b]) else spanI 1 (a.1 * b.1) [a.1 * b.2, a.2 * b.1, a.2 * b.2]
def divPos (a b : Iv) : Iv × Int := spanR (rndF false a.1 (if a.1 < 0 then b.1 else b.2)) (rndF true a.2 (if a.2 < 0 then b.2 else b.1))
def quoF (a b : Iv) : Iv × Int := if ivE [a, b] ≠ 0 then errI (ivE [a, b]) else if b.1 ≤ 0 ∧ 0 ≤ b.2 then errI 9 else if b.2 < 0 then divPos (-a.2, -a.1) (-b.2, -b.1) else divPos a b
def sclF (a : Iv) (num den : Int) : Iv × Int := if ivE [a] ≠ 0 then errI (ivE [a]) else if den < 1 ∨ 4611686018427387904 < den ∨ num < -4611686018427387904 ∨ 4611686018427387904 < num then errI 2 else spanI den (a.1 * num) [a.2 * num]
def rootN (n k : Nat) : Nat := leastF (fun r => decide (n < (r + 1) ^ k)) (n + 1) 0
def rootUp (n k : Nat) : Nat := if rootN n k ^ k < n then rootN n k + 1 else rootN n k
def rootF (a : Iv) (k : Int) : Iv × Int := if ivE [a] ≠ 0 then errI (ivE [a]) else if k < 1 ∨ 62 < k then errI 2 else if a.1 < 0 then errI 9 else (((rootN a.1.toNat k.toNat : Int), (rootUp a.2.toNat k.toNat : Int)), 0)
theorem rootN_eq {n k r : Nat} (hk : 0 < k) (h1 : r ^ k ≤ n) (h2 : n < (r + 1) ^ k) : rootN n k = r := by
  unfold rootN
  have hr : r ≤ n := Nat.le_trans (by
    cases r with
    | zero => exact Nat.zero_le _
    | succ r => exact Nat.le_trans (Nat.le_of_eq (Nat.pow_one _).symm) (Nat.pow_le_pow_right (by omega) hk)) h1
  refine leastF_eq (fun j hj => ?_) (by omega) fun _ => decide_eq_true h2
  refine decide_eq_false ?_
  have := Nat.pow_le_pow_left (show j + 1 ≤ r by omega) k
  omega
theorem rootN_spec {n k : Nat} (hk : 0 < k) : rootN n k ^ k ≤ n ∧ n < (rootN n k + 1) ^ k := by
  have ex : ∀ m : Nat, ∃ r, r ^ k ≤ m ∧ m < (r + 1) ^ k := by
    intro m
    induction m with
    | zero => exact ⟨0, by rw [Nat.zero_pow hk]; omega, by simp⟩
    | succ m ih =>
      obtain ⟨r, h1, h2⟩ := ih
      rcases Nat.lt_or_ge (m + 1) ((r + 1) ^ k) with h | h
      · exact ⟨r, by omega, h⟩
      · refine ⟨r + 1, h, ?_⟩
        have : (r + 1) ^ k < (r + 1 + 1) ^ k := Nat.pow_lt_pow_left (by omega) (by omega)
        omega
  obtain ⟨r, h1, h2⟩ := ex n
  rw [rootN_eq hk h1 h2]
  exact ⟨h1, h2⟩
end Go.Proofs.Ytijadllhfgajlaa
set_option linter.all false
namespace Go.Proofs.Ytijadllhfgajlaa
open Go Go.Vx
structure Bdy where
  kind : Int
  bottom : Int
  top : Int
  mouth : Int
  cut : Int
def inF (n a b : Int) : Bool := decide (a ≤ n) && decide (n ≤ b)
def shapeF (b : Bdy) : Bool := if b.kind = 3 then decide (b.top < b.bottom) else decide (b.top = b.bottom)
def chkB (b : Bdy) : Int :=
  if (inF b.kind 1 3 && shapeF b) = true then
    if (inF b.bottom 1000 500000 && inF b.top 1000 500000 && inF b.mouth 1 (IntKind.i64.wrap (4 * b.bottom)) && inF b.cut 1 (IntKind.i64.wrap (4 * b.bottom))) = true then 0 else 2
  else 2
def keepE (a b : Int) : Int := if a = 0 then b else a
def areaF' (b : Bdy) : Iv := (rootF (mulF (b.mouth, b.mouth) (b.cut, b.cut)).1 2).1
def mouthF (b : Bdy) : Iv := (quoF (sclF (mulF (b.bottom, b.bottom) (b.bottom, b.bottom)).1 575 1000).1 (areaF' b)).1
def endF (b : Bdy) : Iv := if b.kind = 2 then (0, 0) else (sclF (b.top, b.top) 30665 100000).1
def bothF (b : Bdy) : Iv := (addF (mouthF b) (endF b)).1
def partsF (b : Bdy) : Int := if b.kind = 2 then 250 else 500
def wayF (b : Bdy) (t : Int) : Iv × Int := sclF (speedF t).1 (partsF b) 1
def begE (b : Bdy) (x : Iv) (least most t : Int) : Int :=
  if chkB b ≠ 0 then chkB b else if (speedF t).2 ≠ 0 ∨ x.1 < least ∨ x.2 < x.1 ∨ most < x.2 then 2 else 0
def fitsF (x : Iv) (e most : Int) : Iv × Int := if e ≠ 0 ∨ x.1 < 1 ∨ most < x.2 then ((0, 0), 7) else (x, 0)
def lenF (b : Bdy) (x : Iv) (t : Int) : Iv × Int :=
  if begE b x 1000 20000000 t ≠ 0 then ((0, 0), begE b x 1000 20000000 t)
  else fitsF (subF (quoF (wayF b t).1 x).1 (bothF b)).1 (keepE (keepE (wayF b t).2 (quoF (wayF b t).1 x).2) (subF (quoF (wayF b t).1 x).1 (bothF b)).2) 12000000
def pitF (b : Bdy) (x : Iv) (t : Int) : Iv × Int :=
  if begE b x 1 12000000 t ≠ 0 then ((0, 0), begE b x 1 12000000 t)
  else fitsF (quoF (wayF b t).1 (addF x (bothF b)).1).1 (keepE (wayF b t).2 (quoF (wayF b t).1 (addF x (bothF b)).1).2) 200000000
theorem leE2 {a b : Iv} (h : ivE [a, b] = 0) : a.1 ≤ a.2 ∧ b.1 ≤ b.2 := by
  unfold ivE at h
  split at h
  · split at h
    · rename_i h2
      simp only [List.all_cons, List.all_nil, Bool.and_true, Bool.and_eq_true, decide_eq_true_eq] at h2
      exact h2
    · cases h
  · cases h
theorem leE1 {a : Iv} (h : ivE [a] = 0) : a.1 ≤ a.2 := by
  unfold ivE at h
  split at h
  · split at h
    · rename_i h2
      simpa using h2
    · cases h
  · cases h
theorem rndB_ok {t : Int} (h : (rndB t).2 = true) : (rndB t).1 = t := by
  unfold rndB at h ⊢
  split
  · rfl
  · rename_i hc; rw [if_neg hc] at h; cases h
theorem spanR_ok {a b : Int × Bool} (h : (spanR a b).2 = 0) : (spanR a b).1 = (a.1, b.1) ∧ a.2 = true ∧ b.2 = true := by
  unfold spanR at h ⊢
  split
  · rename_i hc
    rw [Bool.and_eq_true] at hc
    exact ⟨rfl, hc⟩
  · rename_i hc; rw [if_neg hc] at h; cases h
theorem scl_1 {a : Iv} {n : Int} (hn : 0 ≤ n) (h : (sclF a n 1).2 = 0) : (sclF a n 1).1 = (a.1 * n, a.2 * n) ∧ a.1 ≤ a.2 := by
  unfold sclF at h ⊢
  by_cases h1 : ivE [a] ≠ 0
  · rw [if_pos h1] at h; exact absurd h h1
  · rw [if_neg h1] at h ⊢
    have hle := leE1 (by simpa using h1)
    by_cases h2 : (1 : Int) < 1 ∨ 4611686018427387904 < (1 : Int) ∨ n < -4611686018427387904 ∨ 4611686018427387904 < n
    · rw [if_pos h2] at h; cases h
    · rw [if_neg h2] at h ⊢
      unfold spanI at h ⊢
      obtain ⟨e, k1, k2⟩ := spanR_ok h
      rw [e]
      have hm : a.1 * n ≤ a.2 * n := Int.mul_le_mul_of_nonneg_right hle hn
      unfold rndF at k1 k2 ⊢
      rw [rndB_ok k1, rndB_ok k2]
      refine ⟨?_, hle⟩
      simp only [rndT, lowI, highI, List.foldl_cons, List.foldl_nil, if_true, Bool.false_eq_true, if_false, Int.ediv_one, Int.neg_neg]
      congr 1
      · split <;> omega
      · split <;> omega
theorem quo_1 {a b : Iv} (ha : 0 ≤ a.1) (hb : 0 < b.1) (h : (quoF a b).2 = 0) : (quoF a b).1 = (a.1 / b.2, -((-a.2) / b.1)) ∧ a.1 ≤ a.2 ∧ b.1 ≤ b.2 := by
  unfold quoF at h ⊢
  by_cases h1 : ivE [a, b] ≠ 0
  · rw [if_pos h1] at h; exact absurd h h1
  · rw [if_neg h1] at h ⊢
    obtain ⟨l1, l2⟩ := leE2 (by simpa using h1)
    rw [if_neg (by omega), if_neg (by omega)] at h ⊢
    unfold divPos at h ⊢
    rw [if_neg (by omega), if_neg (by omega)] at h ⊢
    obtain ⟨e, k1, k2⟩ := spanR_ok h
    rw [e]
    unfold rndF at k1 k2 ⊢
    rw [rndB_ok k1, rndB_ok k2]
    exact ⟨rfl, l1, l2⟩
theorem add_1 {a b : Iv} (h : (addF a b).2 = 0) : (addF a b).1 = (a.1 + b.1, a.2 + b.2) ∧ a.1 ≤ a.2 ∧ b.1 ≤ b.2 := by
  unfold addF at h ⊢
  by_cases h1 : ivE [a, b] ≠ 0
  · rw [if_pos h1] at h; exact absurd h h1
  · rw [if_neg h1] at h ⊢
    obtain ⟨l1, l2⟩ := leE2 (by simpa using h1)
    unfold fitF at h ⊢
    split
    · exact ⟨rfl, l1, l2⟩
    · rename_i hc; rw [if_neg hc] at h; cases h
theorem sub_1 {a b : Iv} (h : (subF a b).2 = 0) : (subF a b).1 = (a.1 - b.2, a.2 - b.1) ∧ a.1 ≤ a.2 ∧ b.1 ≤ b.2 := by
  unfold subF at h ⊢
  by_cases h1 : ivE [a, b] ≠ 0
  · rw [if_pos h1] at h; exact absurd h h1
  · rw [if_neg h1] at h ⊢
    obtain ⟨l1, l2⟩ := leE2 (by simpa using h1)
    obtain ⟨e, _, _⟩ := add_1 h
    rw [e]
    exact ⟨by simp only [Prod.mk.injEq]; omega, l1, l2⟩
theorem add_iv (a b : Iv) : (addF a b).1.1 ≤ (addF a b).1.2 ∧ (0 ≤ a.1 → 0 ≤ b.1 → 0 ≤ (addF a b).1.1) ∧ ((addF a b).2 ≠ 0 → (addF a b).1 = (0, 0)) := by
  by_cases h : (addF a b).2 = 0
  · obtain ⟨e, l1, l2⟩ := add_1 h
    rw [e]
    exact ⟨by simp only; omega, fun _ _ => by simp only; omega, fun hh => absurd h hh⟩
  · have e : (addF a b).1 = (0, 0) := by
      unfold addF at h ⊢
      split
      · rfl
      · rename_i h1; rw [if_neg h1] at h
        unfold fitF at h ⊢
        split
        · rename_i h2; rw [if_pos h2] at h; exact absurd rfl h
        · rfl
    rw [e]
    exact ⟨Int.le_refl _, fun _ _ => Int.le_refl _, fun _ => rfl⟩
theorem span_nn {d x : Int} {r : List Int} (hd : 0 < d) (hx : 0 ≤ x) (hr : ∀ y, y ∈ r → 0 ≤ y) : 0 ≤ (spanI d x r).1.1 := by
  by_cases h : (spanI d x r).2 = 0
  · unfold spanI at h ⊢
    obtain ⟨e, k1, k2⟩ := spanR_ok h
    rw [e]
    unfold rndF at k1 ⊢
    rw [rndB_ok k1]
    have key : ∀ (r : List Int) (x : Int), 0 ≤ x → (∀ y, y ∈ r → 0 ≤ y) → 0 ≤ lowI x r := fun r => by
      induction r with
      | nil => intro x hx _; exact hx
      | cons y r ih =>
        intro x hx hr
        unfold lowI
        rw [List.foldl_cons]
        refine ih _ ?_ fun z hz => hr z (List.mem_cons_of_mem _ hz)
        split
        · exact hr y (List.mem_cons_self ..)
        · exact hx
    exact Int.ediv_nonneg (key r x hx hr) (Int.le_of_lt hd)
  · unfold spanI spanR at h ⊢
    split
    · rename_i hc; rw [if_pos hc] at h; exact absurd rfl h
    · exact Int.le_refl _
theorem numOk_is {x : Int} (h0 : -4611686018427387904 ≤ x) (h1 : x ≤ 4611686018427387904) : numOk x = true := by
  unfold numOk; rw [decide_eq_true h0, decide_eq_true h1]; rfl
theorem okE1 {a : Iv} (h0 : -4611686018427387904 ≤ a.1) (h1 : a.1 ≤ a.2) (h2 : a.2 ≤ 4611686018427387904) : ivE [a] = 0 := by
  rw [ivE, if_pos (by simp [numOk_is (x := a.1) h0 (by omega), numOk_is (x := a.2) (by omega) h2]), if_pos (by simpa using h1)]
theorem okE2 {a b : Iv} (h0 : -4611686018427387904 ≤ a.1) (h1 : a.1 ≤ a.2) (h2 : a.2 ≤ 4611686018427387904) (k0 : -4611686018427387904 ≤ b.1) (k1 : b.1 ≤ b.2) (k2 : b.2 ≤ 4611686018427387904) : ivE [a, b] = 0 := by
  rw [ivE, if_pos (by simp [numOk_is (x := a.1) h0 (by omega), numOk_is (x := a.2) (by omega) h2, numOk_is (x := b.1) k0 (by omega), numOk_is (x := b.2) (by omega) k2]), if_pos (by simp [h1, k1])]
theorem rndB_is {t : Int} (h0 : -4611686018427387904 ≤ t) (h1 : t ≤ 4611686018427387904) : rndB t = (t, true) := by rw [rndB, if_pos ⟨h0, h1⟩]
theorem mul_e0 {x y : Int} (hx : 0 ≤ x) (hx1 : x ≤ 2000000) (hy : 0 ≤ y) (hy1 : y ≤ 2000000) : mulF (x, x) (y, y) = ((x * y, x * y), 0) := by
  have h0 : 0 ≤ x * y := Int.mul_nonneg hx hy
  have h1 : x * y ≤ 2000000 * 2000000 := mul_le' hx1 hy1 hx (by decide)
  rw [mulF, if_neg (by rw [okE2 (by simp only; omega) (Int.le_refl _) (by simp only; omega) (by simp only; omega) (Int.le_refl _) (by simp only; omega)]; decide)]
  simp only [spanI, lowI, highI, List.foldl_cons, List.foldl_nil, Int.lt_irrefl, if_false, ite_self, rndF, rndT, if_true, Bool.false_eq_true, Int.ediv_one, Int.neg_neg]
  rw [rndB_is (by omega) (by omega)]
  rfl
theorem scl_e0 {a : Iv} {n d : Int} (h0 : 0 ≤ a.1) (h1 : a.1 ≤ a.2) (h2 : a.2 ≤ 4000000000000) (hn : 0 ≤ n) (hn1 : n ≤ 100000) (hd : 1 ≤ d) (hd1 : d ≤ 100000) : (sclF a n d).2 = 0 := by
  rw [sclF, if_neg (by rw [okE1 (by omega) h1 (by omega)]; decide), if_neg (by omega)]
  have k1 : a.1 * n ≤ a.2 * n := Int.mul_le_mul_of_nonneg_right h1 hn
  have k0 : 0 ≤ a.1 * n := Int.mul_nonneg h0 hn
  have k2 : a.2 * n ≤ 4000000000000 * 100000 := mul_le' h2 hn1 (by omega) (by decide)
  have q : ∀ x : Int, 0 ≤ x → x ≤ 400000000000000000 → rndB (x / d) = (x / d, true) ∧ rndB (-((-x) / d)) = (-((-x) / d), true) := fun x hx hx1 => by
    have m1 : x / d ≤ x := Int.ediv_le_self _ hx
    have m0 : 0 ≤ x / d := Int.ediv_nonneg hx (by omega)
    have m2 : -x ≤ (-x) / d := by
      rw [Int.le_ediv_iff_mul_le (by omega)]
      have : x * 1 ≤ x * d := Int.mul_le_mul_of_nonneg_left hd hx
      rw [Int.neg_mul]; omega
    have m3 : (-x) / d ≤ 0 := Int.ediv_nonpos_of_nonpos_of_neg (by omega) (by omega)
    exact ⟨rndB_is (by omega) (by omega), rndB_is (by omega) (by omega)⟩
  unfold spanI rndF rndT
  simp only [lowI, highI, List.foldl_cons, List.foldl_nil, if_true, Bool.false_eq_true, if_false]
  rw [(q _ (by split <;> omega) (by split <;> omega)).1, (q _ (by split <;> omega) (by split <;> omega)).2]
  rfl
theorem chkB_ok {b : Bdy} (h : chkB b = 0) : (1 ≤ b.kind ∧ b.kind ≤ 3) ∧ (1000 ≤ b.bottom ∧ b.bottom ≤ 500000) ∧ (1000 ≤ b.top ∧ b.top ≤ 500000) ∧ (1 ≤ b.mouth ∧ b.mouth ≤ 2000000) ∧ 1 ≤ b.cut ∧ b.cut ≤ 2000000 := by
  unfold chkB at h
  split at h
  · rename_i h1
    split at h
    · rename_i h2
      simp only [inF, Bool.and_eq_true, decide_eq_true_eq] at h1 h2
      obtain ⟨⟨⟨b1, b2⟩, b3⟩, b4⟩ := h2
      rw [IntWalk.i64_in _ (by omega)] at b3 b4
      exact ⟨h1.1, b1, b2, ⟨b3.1, by omega⟩, b4.1, by omega⟩
    · cases h
  · cases h
end Go.Proofs.Ytijadllhfgajlaa
set_option linter.all false
namespace Go.Proofs.Ytijadllhfgajlaa
open Go Go.Vx
set_option maxRecDepth 100000
set_option maxHeartbeats 4000000
def v37 : VF := { ntmps := 9, res := [.tmp 2], body :=
 (.seq (.region [u1 2 .mov [.cn (.bool false)]])
 (.seq (.region [u1 3 .mov [.tm 0],
 u1 4 (.cmp .geq) [.tm 3, .cn (.int .i64 (-4611686018427387904))],
 u1 5 .mov [.tm 4],
 u2 6 5 true .mov [.tm 0],
 u2 7 5 true (.cmp .leq) [.tm 6, .cn (.int .i64 4611686018427387904)],
 u1 8 .and [.tm 5, .tm 7],
 u1 2 .mov [.tm 8]])
 .ret)) }
theorem v37_is : vfunc Try.prog Try.f37 = some v37 := by kernel_rfl
def v25 : VF := { ntmps := 36, res := [.tmp 2], body :=
 (.seq (.region [u1 2 .mov [.cn (.int .i64 0)]])
 (.seq (.seq (.region [u1 7 .mov [.tm 0],
 u1 8 .len [.tm 7],
 u1 9 .mov [.cn (.int .i64 0)]])
 (.block 0 (.loop (.seq (.region [u1 10 (.cmp .lss) [.tm 9, .tm 8]])
 (.seq (.cond (.tm 10) .skip
  (.exit 0))
 (.seq (.block 1 (.seq (.region [u1 11 (.idxAddr 2) [.tm 7, .tm 9],
 u1 12 (.load true 2) [.tm 11],
 u1 4 (.alloc [(.int .i64 0), (.int .i64 0)]) [],
 u0 (.store 2) [.tm 4, .tm 12]])
 (.seq (.region [u1 13 (.fieldAddr 0) [.tm 4],
 u1 14 (.load false 1) [.tm 13],
 u1 15 (.call 37) [.tm 14],
 u1 16 .not [.tm 15],
 u1 17 .mov [.tm 16],
 u2 18 17 false (.fieldAddr 1) [.tm 4],
 u2 19 17 false (.load false 1) [.tm 18],
 u2 20 17 false (.call 37) [.tm 19],
 u2 21 17 false .not [.tm 20],
 u1 22 .or [.tm 17, .tm 21]])
 (.cond (.tm 22) (.seq (.region [u1 2 .mov [.cn (.int .i64 7)]])
 .ret)
  .skip))))
 (.region [u1 23 (.ari .add) [.tm 9, .cn (.int .i64 1)],
 u1 9 .mov [.tm 23]])))))))
 (.seq (.seq (.region [u1 24 .mov [.tm 0],
 u1 25 .len [.tm 24],
 u1 26 .mov [.cn (.int .i64 0)]])
 (.block 2 (.loop (.seq (.region [u1 27 (.cmp .lss) [.tm 26, .tm 25]])
 (.seq (.cond (.tm 27) .skip
  (.exit 2))
 (.seq (.block 3 (.seq (.region [u1 28 (.idxAddr 2) [.tm 24, .tm 26],
 u1 29 (.load true 2) [.tm 28],
 u1 6 (.alloc [(.int .i64 0), (.int .i64 0)]) [],
 u0 (.store 2) [.tm 6, .tm 29]])
 (.seq (.region [u1 30 (.fieldAddr 0) [.tm 6],
 u1 31 (.load false 1) [.tm 30],
 u1 32 (.fieldAddr 1) [.tm 6],
 u1 33 (.load false 1) [.tm 32],
 u1 34 (.cmp .gtr) [.tm 31, .tm 33]])
 (.cond (.tm 34) (.seq (.region [u1 2 .mov [.cn (.int .i64 2)]])
 .ret)
  .skip))))
 (.region [u1 35 (.ari .add) [.tm 26, .cn (.int .i64 1)],
 u1 26 .mov [.tm 35]])))))))
 (.seq (.region [u1 2 .mov [.cn (.int .i64 0)]])
 .ret)))) }
theorem v25_is : vfunc Try.prog Try.f25 = some v25 := by kernel_rfl
def v39 : VF := { ntmps := 8, res := [.tmp 2], body :=
 (.seq (.region [u1 2 .mov [.cn (.int .u64 0)]])
 (.seq (.region [u1 3 .mov [.tm 0],
 u1 4 .mov [.tm 0],
 u1 5 .neg [.tm 4],
 u1 6 .max [.tm 3, .tm 5],
 u1 7 (.conv .u64) [.tm 6],
 u1 2 .mov [.tm 7]])
 .ret)) }
theorem v39_is : vfunc Try.prog Try.f39 = some v39 := by kernel_rfl
def v26 : VF := { ntmps := 29, res := [.cell 4 true 3], body :=
 (.seq (.region [u1 4 (.alloc [(.bool false), (.int .u64 0), (.int .u64 0)]) []])
 (.seq (.region [u1 8 .mov [.tm 0],
 u1 9 (.call 39) [.tm 8],
 u1 10 .mov [.tm 1],
 u1 11 (.call 39) [.tm 10],
 u1 12 (.call 38) [.tm 9, .tm 11],
 u1 7 .mov [.tm 12],
 u1 13 (.ext 0) [.tm 7],
 u1 14 (.ext 1) [.tm 7],
 u1 5 .mov [.tm 13],
 u1 6 .mov [.tm 14]])
 (.seq (.region [u1 15 .mov [.tm 0],
 u1 16 (.cmp .lss) [.tm 15, .cn (.int .i64 0)],
 u1 17 .mov [.tm 1],
 u1 18 (.cmp .lss) [.tm 17, .cn (.int .i64 0)],
 u1 19 (.eqb true) [.tm 16, .tm 18],
 u1 20 .mov [.tm 19],
 u2 21 20 true .mov [.tm 5],
 u2 22 20 true .mov [.tm 6],
 u2 23 20 true (.bit .or) [.tm 21, .tm 22],
 u2 24 20 true (.cmp .neq) [.tm 23, .cn (.int .u64 0)],
 u1 25 .and [.tm 20, .tm 24],
 u1 26 .mov [.tm 5],
 u1 27 .mov [.tm 6],
 u1 28 (.build [(.bool false), (.int .u64 0), (.int .u64 0)] [(0, 1), (1, 1), (2, 1)]) [.tm 25, .tm 26, .tm 27],
 u0 (.store 3) [.tm 4, .tm 28]])
 .ret))) }
theorem v26_is : vfunc Try.prog Try.f26 = some v26 := by kernel_rfl
def v51 : VF := { ntmps := 39, res := [.tmp 4], body :=
 (.seq (.region [u1 2 .box [.tm 0],
 u1 3 .box [.tm 1],
 u1 4 .mov [.cn (.bool false)]])
 (.seq (.seq (.region [u1 6 (.load true 3) [.tm 2],
 u1 7 (.load true 3) [.tm 3],
 u1 8 (.eqv false [false, true, true]) [.tm 6, .tm 7]])
 (.cond (.tm 8) (.seq (.region [u1 4 .mov [.cn (.bool false)]])
 .ret)
  .skip))
 (.seq (.seq (.region [u1 9 (.fieldAddr 0) [.tm 2],
 u1 10 (.load false 1) [.tm 9],
 u1 11 (.fieldAddr 0) [.tm 3],
 u1 12 (.load false 1) [.tm 11],
 u1 13 (.eqb true) [.tm 10, .tm 12]])
 (.cond (.tm 13) (.seq (.region [u1 14 (.fieldAddr 0) [.tm 2],
 u1 15 (.load false 1) [.tm 14],
 u1 4 .mov [.tm 15]])
 .ret)
  .skip))
 (.seq (.region [u1 16 (.fieldAddr 1) [.tm 2],
 u1 17 (.load false 1) [.tm 16],
 u1 18 (.fieldAddr 1) [.tm 3],
 u1 19 (.load false 1) [.tm 18],
 u1 20 (.cmp .lss) [.tm 17, .tm 19],
 u1 21 .mov [.tm 20],
 u2 22 21 false (.fieldAddr 1) [.tm 2],
 u2 23 21 false (.load false 1) [.tm 22],
 u2 24 21 false (.fieldAddr 1) [.tm 3],
 u2 25 21 false (.load false 1) [.tm 24],
 u2 26 21 false (.cmp .eql) [.tm 23, .tm 25],
 u2 27 21 false .mov [.tm 26],
 u2 28 27 true (.fieldAddr 2) [.tm 2],
 u2 29 27 true (.load false 1) [.tm 28],
 u2 30 27 true (.fieldAddr 2) [.tm 3],
 u2 31 27 true (.load false 1) [.tm 30],
 u2 32 27 true (.cmp .lss) [.tm 29, .tm 31],
 u2 33 21 false .and [.tm 27, .tm 32],
 u1 34 .or [.tm 21, .tm 33],
 u1 5 .mov [.tm 34]])
 (.seq (.region [u1 35 .mov [.tm 5],
 u1 36 (.fieldAddr 0) [.tm 2],
 u1 37 (.load false 1) [.tm 36],
 u1 38 (.eqb true) [.tm 35, .tm 37],
 u1 4 .mov [.tm 38]])
 .ret))))) }
theorem v51_is : vfunc Try.prog Try.f51 = some v51 := by kernel_rfl
def v27 : VF := { ntmps := 56, res := [.tmp 6, .tmp 7], body :=
 (.seq (.region [u1 3 .box [.tm 0],
 u1 6 .mov [.cn (.int .i64 0)],
 u1 7 .mov [.cn (.bool false)]])
 (.seq (.seq (.region [u1 10 (.fieldAddr 1) [.tm 3],
 u1 11 (.load false 1) [.tm 10],
 u1 12 .mov [.tm 1],
 u1 13 (.cmp .geq) [.tm 11, .tm 12]])
 (.cond (.tm 13) (.seq (.region [u1 6 .mov [.cn (.int .i64 0)],
 u1 7 .mov [.cn (.bool false)]])
 .ret)
  .skip))
 (.seq (.region [u1 15 (.fieldAddr 1) [.tm 3],
 u1 16 (.load false 1) [.tm 15],
 u1 17 (.fieldAddr 2) [.tm 3],
 u1 18 (.load false 1) [.tm 17],
 u1 19 .mov [.tm 1],
 u1 20 (.call 40) [.tm 16, .tm 18, .tm 19],
 u1 14 .mov [.tm 20],
 u1 21 (.ext 0) [.tm 14],
 u1 22 (.ext 1) [.tm 14],
 u1 8 .mov [.tm 21],
 u1 9 .mov [.tm 22]])
 (.seq (.seq (.region [u1 23 .mov [.tm 9],
 u1 24 (.cmp .neq) [.tm 23, .cn (.int .u64 0)],
 u1 25 .mov [.tm 24],
 u2 26 25 true .mov [.tm 2],
 u2 27 25 true (.fieldAddr 0) [.tm 3],
 u2 28 25 true (.load false 1) [.tm 27],
 u2 29 25 true (.eqb true) [.tm 26, .tm 28],
 u1 30 .and [.tm 25, .tm 29]])
 (.cond (.tm 30) (.region [u1 31 .mov [.tm 8],
 u1 32 (.ari .add) [.tm 31, .cn (.int .u64 1)],
 u1 8 .mov [.tm 32]])
  .skip))
 (.seq (.seq (.region [u1 33 .mov [.tm 8],
 u1 34 (.cmp .gtr) [.tm 33, .cn (.int .u64 4611686018427387904)],
 u1 35 .mov [.tm 34],
 u2 36 35 false .mov [.tm 8],
 u2 37 35 false (.cmp .eql) [.tm 36, .cn (.int .u64 0)],
 u2 38 35 false .mov [.tm 37],
 u2 39 38 true .mov [.tm 9],
 u2 40 38 true (.cmp .neq) [.tm 39, .cn (.int .u64 0)],
 u2 41 35 false .and [.tm 38, .tm 40],
 u2 42 35 false .mov [.tm 41],
 u2 43 42 true .mov [.tm 2],
 u2 44 42 true (.fieldAddr 0) [.tm 3],
 u2 45 42 true (.load false 1) [.tm 44],
 u2 46 42 true (.eqb true) [.tm 43, .tm 45],
 u2 47 35 false .and [.tm 42, .tm 46],
 u1 48 .or [.tm 35, .tm 47]])
 (.cond (.tm 48) (.seq (.region [u1 6 .mov [.cn (.int .i64 0)],
 u1 7 .mov [.cn (.bool false)]])
 .ret)
  .skip))
 (.seq (.seq (.region [u1 49 (.fieldAddr 0) [.tm 3],
 u1 50 (.load false 1) [.tm 49]])
 (.cond (.tm 50) (.seq (.region [u1 51 .mov [.tm 8],
 u1 52 (.conv .i64) [.tm 51],
 u1 53 .neg [.tm 52],
 u1 6 .mov [.tm 53],
 u1 7 .mov [.cn (.bool true)]])
 .ret)
  .skip))
 (.seq (.region [u1 54 .mov [.tm 8],
 u1 55 (.conv .i64) [.tm 54],
 u1 6 .mov [.tm 55],
 u1 7 .mov [.cn (.bool true)]])
 .ret))))))) }
theorem v27_is : vfunc Try.prog Try.f27 = some v27 := by kernel_rfl
def v42 : VF := { ntmps := 58, res := [.cell 4 true 2, .tmp 5], body :=
 (.seq (.region [u1 4 (.alloc [(.int .i64 0), (.int .i64 0)]) [],
 u1 5 .mov [.cn (.int .i64 0)]])
 (.seq (.draw [(6, .box [(.bool false), (.int .u64 0), (.int .u64 0)]), (7, .box [(.bool false), (.int .u64 0), (.int .u64 0)])] [w1 14 .mov [.tm 1],
 w1 15 (.idxAddr 3) [.tm 14, .cn (.int .i64 0)],
 w1 16 (.load true 3) [.tm 15],
 w1 17 .mov [.tm 1],
 w1 18 (.idxAddr 3) [.tm 17, .cn (.int .i64 0)],
 w1 19 (.load true 3) [.tm 18],
 ⟨u0 (.store 3) [.tm 6, .tm 16], [.tm 18]⟩,
 w0 (.store 3) [.tm 7, .tm 19]])
 (.seq (.seq (.region [u1 20 .mov [.tm 1],
 u1 21 (.slice 3 true false) [.tm 20, .cn (.int .i64 1)],
 u1 22 .len [.tm 21],
 u1 23 .mov [.cn (.int .i64 0)]])
 (.block 0 (.loop (.seq (.region [u1 24 (.cmp .lss) [.tm 23, .tm 22]])
 (.seq (.cond (.tm 24) .skip
  (.exit 0))
 (.seq (.block 1 (.seq (.region [u1 25 (.idxAddr 3) [.tm 21, .tm 23],
 u1 26 (.load true 3) [.tm 25],
 u1 9 (.alloc [(.bool false), (.int .u64 0), (.int .u64 0)]) [],
 u0 (.store 3) [.tm 9, .tm 26]])
 (.seq (.seq (.region [u1 27 (.load true 3) [.tm 9],
 u1 28 (.load true 3) [.tm 6],
 u1 29 (.call 51) [.tm 27, .tm 28]])
 (.cond (.tm 29) (.region [u1 30 (.load true 3) [.tm 9],
 u0 (.store 3) [.tm 6, .tm 30]])
  .skip))
 (.seq (.region [u1 31 (.load true 3) [.tm 7],
 u1 32 (.load true 3) [.tm 9],
 u1 33 (.call 51) [.tm 31, .tm 32]])
 (.cond (.tm 33) (.region [u1 34 (.load true 3) [.tm 9],
 u0 (.store 3) [.tm 7, .tm 34]])
  .skip)))))
 (.region [u1 35 (.ari .add) [.tm 23, .cn (.int .i64 1)],
 u1 23 .mov [.tm 35]])))))))
 (.seq (.region [u1 37 (.load true 3) [.tm 6],
 u1 38 .mov [.tm 0],
 u1 39 (.call 27) [.tm 37, .tm 38, .cn (.bool false)],
 u1 36 .mov [.tm 39],
 u1 40 (.ext 0) [.tm 36],
 u1 41 (.ext 1) [.tm 36],
 u1 10 .mov [.tm 40],
 u1 11 .mov [.tm 41]])
 (.seq (.region [u1 43 (.load true 3) [.tm 7],
 u1 44 .mov [.tm 0],
 u1 45 (.call 27) [.tm 43, .tm 44, .cn (.bool true)],
 u1 42 .mov [.tm 45],
 u1 46 (.ext 0) [.tm 42],
 u1 47 (.ext 1) [.tm 42],
 u1 12 .mov [.tm 46],
 u1 13 .mov [.tm 47]])
 (.seq (.seq (.region [u1 48 .mov [.tm 11],
 u1 49 .not [.tm 48],
 u1 50 .mov [.tm 49],
 u2 51 50 false .mov [.tm 13],
 u2 52 50 false .not [.tm 51],
 u1 53 .or [.tm 50, .tm 52]])
 (.cond (.tm 53) (.seq (.region [u1 54 (.build [(.int .i64 0), (.int .i64 0)] []) [],
 u0 (.store 2) [.tm 4, .tm 54],
 u1 5 .mov [.cn (.int .i64 7)]])
 .ret)
  .skip))
 (.seq (.region [u1 55 .mov [.tm 10],
 u1 56 .mov [.tm 12],
 u1 57 (.build [(.int .i64 0), (.int .i64 0)] [(0, 1), (1, 1)]) [.tm 55, .tm 56],
 u0 (.store 2) [.tm 4, .tm 57],
 u1 5 .mov [.cn (.int .i64 0)]])
 .ret))))))) }
theorem v42_is : vfunc Try.prog Try.f42 = some v42 := by kernel_rfl
def v28 : VF := { ntmps := 18, res := [.cell 4 true 2, .tmp 5], body :=
 (.seq (.region [u1 4 (.alloc [(.int .i64 0), (.int .i64 0)]) [],
 u1 5 .mov [.cn (.int .i64 0)]])
 (.seq (.seq (.region [u1 6 .mov [.tm 0],
 u1 7 (.call 37) [.tm 6],
 u1 8 .not [.tm 7],
 u1 9 .mov [.tm 8],
 u2 10 9 false .mov [.tm 1],
 u2 11 9 false (.call 37) [.tm 10],
 u2 12 9 false .not [.tm 11],
 u1 13 .or [.tm 9, .tm 12]])
 (.cond (.tm 13) (.seq (.region [u1 14 (.build [(.int .i64 0), (.int .i64 0)] []) [],
 u0 (.store 2) [.tm 4, .tm 14],
 u1 5 .mov [.cn (.int .i64 7)]])
 .ret)
  .skip))
 (.seq (.region [u1 15 .mov [.tm 0],
 u1 16 .mov [.tm 1],
 u1 17 (.build [(.int .i64 0), (.int .i64 0)] [(0, 1), (1, 1)]) [.tm 15, .tm 16],
 u0 (.store 2) [.tm 4, .tm 17],
 u1 5 .mov [.cn (.int .i64 0)]])
 .ret))) }
theorem v28_is : vfunc Try.prog Try.f28 = some v28 := by kernel_rfl
def numC : Ctr := { alias := false, of := fun l => match l with | [.int .i64 n] => .fin (.bool (numOk n)) [] | _ => noC }
def ivlC : Ctr := { alias := false, of := fun a => match a with
  | [.vs _ _ n sz get] => .ex (List Iv) fun l => .pre (lsP 2 enc2 n sz get l ∧ l.length ≤ 1000000) (.fin (.int .i64 (ivE l)) [])
  | _ => noC }
def sizC : Ctr := { alias := false, of := fun l => match l with
  | [.int .i64 n] => .pre (-9223372036854775808 ≤ n ∧ n ≤ 9223372036854775807) (.fin (.int .u64 (n.natAbs : Int)) [])
  | _ => noC }
def timC : Ctr := { alias := false, of := fun l => match l with
  | [.int .i64 a, .int .i64 b] => .pre ((-9223372036854775808 ≤ a ∧ a ≤ 9223372036854775807) ∧ -9223372036854775808 ≤ b ∧ b ≤ 9223372036854775807) (.fin (.agg (longE (a * b))) [])
  | _ => noC }
def lessC : Ctr := { alias := false, of := fun l => match l with
  | [.agg [.bool n, .int .u64 h, .int .u64 lo], .agg [.bool n', .int .u64 h', .int .u64 lo']] => .ex Int fun x => .ex Int fun y => .pre (longP x n h lo ∧ longP y n' h' lo') (.fin (.bool (decide (x < y))) [])
  | _ => noC }
def overC : Ctr := { alias := false, of := fun l => match l with
  | [.agg [.bool n, .int .u64 h, .int .u64 lo], .int .u64 d, .bool up] => .ex Int fun x => .pre (longP x n h lo ∧ big x ∧ 0 < d ∧ d ≤ 18446744073709551615) (.fin (.tup [.int .i64 (rndF up x d).1, .bool (rndF up x d).2]) [])
  | _ => noC }
def spanC : Ctr := { alias := false, of := fun l => match l with
  | [.int .u64 d, .vs _ _ n sz get] => .ex Int fun x => .ex (List Int) fun r => .pre (lsP 3 longE n sz get (x :: r) ∧ r.length ≤ 1000 ∧ (∀ y ∈ x :: r, big y) ∧ 0 < d ∧ d ≤ 18446744073709551615) (.fin (.tup [.agg (enc2 (spanI d x r).1), .int .i64 (spanI d x r).2]) [])
  | _ => noC }
def fitC : Ctr := { alias := false, of := fun l => match l with
  | [.int .i64 a, .int .i64 b] => .fin (.tup [.agg (enc2 (fitF a b).1), .int .i64 (fitF a b).2]) []
  | _ => noC }
def P0 : Env := { ct := fun _ => none, fn := fun _ => none, meth := fun _ _ => none }
theorem P0_ok : EnvOk Try.prog P0 := by
  refine ⟨fun f c h => ?_, fun f vf h => ?_, (fun _ _ _ h => by cases h), by kernel_rfl, (fun _ h => by cases h)⟩
  · cases h
  · cases h
theorem num_ok : numC.ok Try.prog 37 := by
  refine contract Try.func37 v37_is P0_ok 100 numC fun args k h => ⟨args, ?_⟩
  simp only [numC] at h
  split at h
  · refine ⟨by simp [leL, le], ?_⟩
    (try dsimp only [v37, go_sem, reduceIte])
    (try simp only [t_all, forall_const, ne_eq, implies_true, Nat.reduceAdd, Nat.reduceLeDiff, reduceCtorEq, Nat.reduceEqDiff])
    exact ans_bool h
  · exact h.1.elim
theorem siz_ok : sizC.ok Try.prog 39 := by
  refine contract Try.func39 v39_is P0_ok 100 sizC fun args k h => ⟨args, ?_⟩
  simp only [sizC] at h
  split at h
  · rename_i n
    obtain ⟨⟨h0, h1⟩, h⟩ := h
    refine ⟨by simp [leL, le], ?_⟩
    (try dsimp only [v39, go_sem, reduceIte])
    (try simp only [t_all, forall_const, ne_eq, implies_true, Nat.reduceAdd, Nat.reduceLeDiff, reduceCtorEq, Nat.reduceEqDiff])
    have e : IntKind.u64.wrap (max n (IntKind.i64.wrap (0 - n))) = (n.natAbs : Int) := by
      rcases Int.lt_or_le n (-9223372036854775807) with h' | h'
      · obtain rfl : n = -9223372036854775808 := by omega
        decide
      · rw [IntWalk.i64_in _ (by omega), IntWalk.u64_in _ (by omega)]; omega
    rw [e]
    exact ans_int h
  · exact h.1.elim
def P1 : Env := { ct := fun n => match n with | 37 => some numC | 39 => some sizC | 38 => some mul64C | 40 => some div64C | _ => none, fn := fun _ => none, meth := fun _ _ => none }
theorem P1_ct37 : P1.ct 37 = some numC := rfl
theorem P1_ct39 : P1.ct 39 = some sizC := rfl
theorem P1_ct38 : P1.ct 38 = some mul64C := rfl
theorem P1_ct40 : P1.ct 40 = some div64C := rfl
theorem P1_ok : EnvOk Try.prog P1 := by
  refine ⟨fun f c h => ?_, fun f vf h => ?_, (fun _ _ _ h => by cases h), by kernel_rfl, (fun _ h => by cases h)⟩
  · simp only [P1] at h
    split at h
    · cases h; exact ⟨num_ok, Try.f37, Try.func37, by kernel_rfl, by kernel_rfl⟩
    · cases h; exact ⟨siz_ok, Try.f39, Try.func39, by kernel_rfl, by kernel_rfl⟩
    · cases h; exact ⟨mul64_ok, Try.f38, Try.func38, by kernel_rfl, by kernel_rfl⟩
    · cases h; exact ⟨div64_ok, Try.f40, Try.func40, by kernel_rfl, by kernel_rfl⟩
    · cases h
  · cases h
theorem ivl_ok : ivlC.ok Try.prog 25 := by
  refine contract Try.func25 v25_is P1_ok 400 ivlC fun args k h => ?_
  simp only [ivlC] at h
  split at h
  · rename_i tt z n sz get
    obtain ⟨l, ⟨⟨rfl, rfl, hg⟩, hmax⟩, h⟩ := h
    refine ⟨[.vs tt z l.length 2 (fun k => enc2 (l.getD k default))], by simpa [leL, le] using hg, ?_⟩
    (try dsimp only [v25, enc2, go_sem, reduceIte])
    (try simp only [t_all, forall_const, ne_eq, implies_true, Nat.reduceAdd, Nat.reduceLeDiff, reduceCtorEq, Nat.reduceEqDiff])
    refine Loop.keep [0, 6, 0, 0] Nat (fun i => [(9, .int .i64 i)]) (fun _ => []) [] (fun i => i ≤ l.length ∧ ∀ j, j < i → (numOk (l.getD j default).1 && numOk (l.getD j default).2) = true) (fun i => l.length - i) ?_ ?_
    · refine ⟨0, ⟨Nat.zero_le _, fun j h => by omega⟩, ?_⟩
      (try dsimp only [go_sem, reduceIte])
      simp only [fin_all, imp_self, implies_true, true_and, and_true]
      simp
    · rintro i ⟨hi, ha⟩
      (try dsimp only [P1_ct37, numC, enc2, Int.toNat_natCast, go_sem, reduceIte])
      (try simp only [t_all, forall_const, ne_eq, implies_true, Nat.reduceAdd, Nat.reduceLeDiff, reduceCtorEq, Nat.reduceEqDiff])
      refine ⟨fun hlt => ⟨⟨by omega, hlt⟩, fun hb => ans_int ?_, fun hb => ?_⟩, fun hge => ?_⟩
      · have e := ivE_bad (l := l) (i := i) (by omega) (by rw [← Bool.not_and, Bool.not_eq_true'] at hb; exact hb)
        rw [e] at h; exact h
      · rw [← Bool.not_and] at hb
        refine ⟨i + 1, ⟨by omega, fun j hj => ?_⟩, by omega, ?_⟩
        · rcases Nat.lt_or_ge j i with h' | h'
          · exact ha j h'
          · obtain rfl : j = i := by omega
            simpa using hb
        · have hw := w_succ (i := i) (n := l.length) (by omega) (by omega)
          simp only [hw, fin_all, imp_self, implies_true, true_and, and_true] <;> simp
      · obtain rfl : i = l.length := by omega
        refine Loop.keep [0, 23, 0, 0] Nat (fun i => [(26, .int .i64 i)]) (fun _ => []) [] (fun i => i ≤ l.length ∧ ∀ j, j < i → (l.getD j default).1 ≤ (l.getD j default).2) (fun i => l.length - i) ?_ ?_
        · refine ⟨0, ⟨Nat.zero_le _, fun j h => by omega⟩, ?_⟩
          (try dsimp only [go_sem, reduceIte])
          simp only [fin_all, imp_self, implies_true, true_and, and_true]
          simp
        · rintro i ⟨hi, hc⟩
          (try dsimp only [enc2, Int.toNat_natCast, go_sem, reduceIte])
          (try simp only [t_all, forall_const, ne_eq, implies_true, Nat.reduceAdd, Nat.reduceLeDiff, reduceCtorEq, Nat.reduceEqDiff])
          refine ⟨fun hlt => ⟨⟨by omega, hlt⟩, fun hb => ans_int ?_, fun hb => ?_⟩, fun hge => ?_⟩
          · have e := ivE_2 ha (i := i) (by omega) (by omega)
            rw [e] at h; exact h
          · refine ⟨i + 1, ⟨by omega, fun j hj => ?_⟩, by omega, ?_⟩
            · rcases Nat.lt_or_ge j i with h' | h'
              · exact hc j h'
              · obtain rfl : j = i := by omega
                omega
            · have hw := w_succ (i := i) (n := l.length) (by omega) (by omega)
              simp only [hw, fin_all, imp_self, implies_true, true_and, and_true] <;> simp
          · obtain rfl : i = l.length := by omega
            rw [ivE_0 ha hc] at h
            exact ans_int h
  · exact h.1.elim
theorem tim_ok : timC.ok Try.prog 26 := by
  refine contract Try.func26 v26_is P1_ok 200 timC fun args k h => ⟨args, ?_⟩
  simp only [timC] at h
  split at h
  · rename_i a b
    obtain ⟨⟨ha, hb⟩, h⟩ := h
    refine ⟨by simp [leL, le], ?_⟩
    (try dsimp only [v26, P1_ct39, P1_ct38, sizC, mul64C, go_sem, reduceIte])
    (try simp only [t_all, forall_const, ne_eq, implies_true, Nat.reduceAdd, Nat.reduceLeDiff, reduceCtorEq, Nat.reduceEqDiff])
    obtain ⟨P, hP⟩ : ∃ P, P = a.natAbs * b.natAbs := ⟨_, rfl⟩
    have hPb : P ≤ 9223372036854775808 * 9223372036854775808 := by rw [hP]; exact Nat.mul_le_mul (by omega) (by omega)
    have e0 : (a.natAbs : Int) * (b.natAbs : Int) = (P : Int) := by rw [hP]; exact (Int.natCast_mul _ _).symm
    have e1 : (P : Int) / 18446744073709551616 = ((P / 18446744073709551616 : Nat) : Int) := by omega
    have e2 : (P : Int) % 18446744073709551616 = ((P % 18446744073709551616 : Nat) : Int) := by omega
    rw [e0, e1, e2, bI_or (by omega) (by omega)]
    refine ⟨ha, hb, ⟨⟨by omega, by omega⟩, by omega, by omega⟩, by decide, by decide, ?_⟩
    have e3 : (a * b).natAbs = P := by rw [hP, Int.natAbs_mul]
    have e4 : (!(decide (a < 0) == decide (b < 0)) && !decide (((P / 18446744073709551616 ||| P % 18446744073709551616 : Nat) : Int) = 0)) = decide (a * b < 0) := by
      have z : decide (((P / 18446744073709551616 ||| P % 18446744073709551616 : Nat) : Int) = 0) = decide (P = 0) := by
        congr 1
        apply propext
        have := @Nat.or_eq_zero_iff (P / 18446744073709551616) (P % 18446744073709551616)
        omega
      rw [z]
      have hz : P = 0 ↔ a = 0 ∨ b = 0 := by rw [hP, Nat.mul_eq_zero]; omega
      rcases Int.lt_trichotomy a 0 with h1 | h1 | h1 <;> rcases Int.lt_trichotomy b 0 with h2 | h2 | h2
      · have := Int.mul_pos_of_neg_of_neg h1 h2
        simp [h1, h2]; omega
      · subst h2; simp [hz]
      · have := Int.mul_neg_of_neg_of_pos h1 h2
        have hb' : ¬ b < 0 := by omega
        simp [h1, hb', this, hz]; omega
      · subst h1; simp [hz]
      · subst h1; simp [hz]
      · subst h1; simp [hz]
      · have := Int.mul_neg_of_pos_of_neg h1 h2
        have ha' : ¬ a < 0 := by omega
        simp [h2, ha', this, hz]; omega
      · subst h2; simp [hz]
      · have := Int.mul_pos h1 h2
        have ha' : ¬ a < 0 := by omega
        have hb' : ¬ b < 0 := by omega
        simp [ha', hb']; omega
    rw [e4]
    have h : k (.agg (longE (a * b))) [] := h
    rw [longE, e3] at h
    exact ans_le (show k _ [] from h) (le_self (.agg [.bool (decide (a * b < 0)), .int .u64 ((P / 18446744073709551616 : Nat) : Int), .int .u64 ((P % 18446744073709551616 : Nat) : Int)]) ⟨trivial, trivial, trivial, trivial⟩) (fun _ => by simp [freshS, freshL])
  · exact h.1.elim
theorem less_ok : lessC.ok Try.prog 51 := by
  refine contract Try.func51 v51_is P1_ok 200 lessC fun args k h => ⟨args, ?_⟩
  simp only [lessC] at h
  split at h
  · rename_i n hi lo n' hi' lo'
    obtain ⟨x, y, ⟨⟨rfl, rfl, rfl⟩, rfl, rfl, rfl⟩, h⟩ := h
    refine ⟨by simp [leL, le], ?_⟩
    (try dsimp only [v51, go_sem, reduceIte])
    (try simp only [t_all, forall_const, ne_eq, implies_true, Nat.reduceAdd, Nat.reduceLeDiff, reduceCtorEq, Nat.reduceEqDiff])
    refine ⟨fun hc => ans_bool ?_, fun hc => ⟨fun hd => ans_bool ?_, fun hd => ⟨fun h1 h2 => by rw [decide_eq_false h1, decide_eq_true h2]; rfl, ans_bool ?_⟩⟩⟩
    · simp only [Bool.and_eq_true, Bool.and_true, decide_eq_true_eq, beq_iff_eq, decide_eq_decide] at hc
      have : x = y := by omega
      subst this
      have h : k (.bool (decide (x < x))) [] := h
      rw [decide_eq_false (Int.lt_irrefl x)] at h
      exact h
    · have : decide (x < y) = decide (x < 0) := by
        rw [beq_eq_false_iff_ne, ne_eq, decide_eq_decide] at hd
        rw [decide_eq_decide]; omega
      rw [← this]; exact h
    · have : (!((decide (((x.natAbs / 18446744073709551616 : Nat) : Int) < ((y.natAbs / 18446744073709551616 : Nat) : Int)) || decide (((x.natAbs / 18446744073709551616 : Nat) : Int) = ((y.natAbs / 18446744073709551616 : Nat) : Int)) && decide (((x.natAbs % 18446744073709551616 : Nat) : Int) < ((y.natAbs % 18446744073709551616 : Nat) : Int))) == decide (x < 0))) = decide (x < y) := by
        simp only [beq_iff_eq, decide_eq_decide] at hd
        simp only [Bool.and_eq_false_iff, Bool.and_true, decide_eq_false_iff_not, beq_eq_false_iff_ne, ne_eq, decide_eq_decide] at hc
        have e : (decide (((x.natAbs / 18446744073709551616 : Nat) : Int) < ((y.natAbs / 18446744073709551616 : Nat) : Int)) || decide (((x.natAbs / 18446744073709551616 : Nat) : Int) = ((y.natAbs / 18446744073709551616 : Nat) : Int)) && decide (((x.natAbs % 18446744073709551616 : Nat) : Int) < ((y.natAbs % 18446744073709551616 : Nat) : Int))) = decide (x.natAbs < y.natAbs) := by
          rw [Bool.eq_iff_iff]
          simp only [Bool.or_eq_true, Bool.and_eq_true, decide_eq_true_eq]
          omega
        rw [e]
        by_cases hx : x < 0
        · rw [decide_eq_true hx, Bool.eq_iff_iff, Bool.not_eq_true', beq_eq_false_iff_ne, ne_eq, decide_eq_true_eq, decide_eq_true_eq]; omega
        · rw [decide_eq_false hx, Bool.eq_iff_iff, Bool.not_eq_true', beq_eq_false_iff_ne, ne_eq, decide_eq_false_iff_not, decide_eq_true_eq]; omega
      rw [this]; exact h
  · exact h.1.elim
theorem over_ok : overC.ok Try.prog 27 := by
  refine contract Try.func27 v27_is P1_ok 200 overC fun args k h => ⟨args, ?_⟩
  simp only [overC] at h
  split at h
  · rename_i n hi lo d up
    obtain ⟨x, ⟨⟨rfl, rfl, rfl⟩, hbx, hd0, hd1⟩, h⟩ := h
    refine ⟨by simp [leL, le], ?_⟩
    (try dsimp only [v27, P1_ct40, div64C, go_sem, reduceIte])
    (try simp only [t_all, forall_const, ne_eq, implies_true, Nat.reduceAdd, Nat.reduceLeDiff, reduceCtorEq, Nat.reduceEqDiff])
    obtain ⟨d, rfl⟩ := Int.eq_ofNat_of_zero_le (by omega : 0 ≤ d)
    obtain ⟨m, hm⟩ : ∃ m, m = x.natAbs := ⟨_, rfl⟩
    have hT := rnd_abs (up := up) (x := x) (d := d) (by omega)
    have e0 : ((m / 18446744073709551616 : Nat) : Int) * 18446744073709551616 + ((m % 18446744073709551616 : Nat) : Int) = m := by omega
    have e1 : (m : Int) / (d : Int) = ((m / d : Nat) : Int) := (Int.natCast_ediv _ _).symm
    have e2 : (m : Int) % (d : Int) = ((m % d : Nat) : Int) := (Int.natCast_emod _ _).symm
    rw [← hm] at hT ⊢
    rw [e0, e1, e2]
    have hF : rndF up x d = rndB (nsg (decide (x < 0)) (m / d + bump up (decide (x < 0)) (m % d))) := by unfold rndF; rw [hT]
    have hfail : 4611686018427387904 < m / d + bump up (decide (x < 0)) (m % d) → rndF up x d = (0, false) := fun hh => by
      rw [hF, rndB, if_neg]
      have := nsg_abs (decide (x < 0)) (m / d + bump up (decide (x < 0)) (m % d))
      omega
    have hgood : m / d + bump up (decide (x < 0)) (m % d) ≤ 4611686018427387904 → rndF up x d = (nsg (decide (x < 0)) (m / d + bump up (decide (x < 0)) (m % d)), true) := fun hh => by
      rw [hF, rndB, if_pos]
      have := nsg_abs (decide (x < 0)) (m / d + bump up (decide (x < 0)) (m % d))
      omega
    have h : k (.tup [.int .i64 (rndF up x d).1, .bool (rndF up x d).2]) [] := h
    have fin : ∀ (t : Int) (b : Bool) (hp : List HO), rndF up x d = (t, b) → answers overC.alias k (.tup [.int .i64 t, .bool b]) hp := fun t b hp hh => by
      rw [hh] at h
      exact ans_le (show k _ [] from h) (le_self (.tup [.int .i64 t, .bool b]) ⟨trivial, trivial, trivial⟩) (fun _ => by simp [freshS, freshL])
    have hQ1 : ¬ (d : Int) ≤ ((m / 18446744073709551616 : Nat) : Int) → m / d < 18446744073709551616 := fun hc => by
      rw [Nat.div_lt_iff_lt_mul (by omega)]
      have h1 : m / 18446744073709551616 < d := by omega
      rw [Nat.div_lt_iff_lt_mul (by decide)] at h1
      rw [Nat.mul_comm]; exact h1
    have hQ2 : (d : Int) ≤ ((m / 18446744073709551616 : Nat) : Int) → 18446744073709551616 ≤ m / d := fun hc => by
      rw [Nat.le_div_iff_mul_le (by omega)]
      have h1 : d ≤ m / 18446744073709551616 := by omega
      rw [Nat.le_div_iff_mul_le (by decide)] at h1
      rw [Nat.mul_comm]; exact h1
    have hd0' : (0 : Int) < (d : Int) := hd0
    clear hT e1 e2
    generalize m / d = Q at *
    generalize m % d = R at *
    have ez : (!decide ((R : Int) = 0)) = decide (R ≠ 0) := by
      rw [← decide_not]; congr 1; exact propext (by omega)
    refine ⟨fun hc => fin _ _ _ (hfail ?_), fun hc => ⟨⟨⟨by omega, by omega⟩, by omega, by omega, by omega⟩, by decide, by decide, fun hb => ?_, fun hb => ?_⟩⟩
    · have := hQ2 hc
      omega
    · have hQ := hQ1 hc
      rw [ez] at hb ⊢
      have hbump : bump up (decide (x < 0)) (R) = 1 := by unfold bump; exact if_pos hb
      rw [hbump] at hfail hgood
      have hcond : ∀ w : Int, ((decide (4611686018427387904 < w) || decide (w = 0) && decide (R ≠ 0) && !(up == decide (x < 0))) = true ↔ 4611686018427387904 < w ∨ w = 0) := fun w => by
        rw [Bool.and_assoc, hb, Bool.and_true, Bool.or_eq_true, decide_eq_true_eq, decide_eq_true_eq]
      have hw : (4611686018427387904 < IntKind.u64.wrap ((Q : Int) + 1) ∨ IntKind.u64.wrap ((Q : Int) + 1) = 0) ↔ 4611686018427387904 < Q + 1 := by
        rw [u_mod]; omega
      refine ⟨fun h1 h2 => by rw [decide_eq_false h1, decide_eq_true h2]; rfl, fun h1 h2 => by rw [decide_eq_false h1, h2]; rfl, fun hcc => fin _ _ _ (hfail (hw.1 ((hcond _).1 hcc))), fun hcc => ?_⟩
      have hsm : Q + 1 ≤ 4611686018427387904 := by
        refine Nat.le_of_not_lt fun hh => ?_
        have := (hcond _).2 (hw.2 hh)
        rw [hcc] at this; cases this
      have hg := hgood hsm
      rw [IntWalk.u64_in _ (by omega)]
      refine ⟨fun hx => fin _ _ _ ?_, fun hx => fin _ _ _ ?_⟩
      · rw [hg, IntWalk.i64_in ((Q : Int) + 1) (by omega), IntWalk.i64_in _ (by omega)]
        unfold nsg
        simp only [hx, decide_true, if_true]
        congr 1 <;> omega
      · rw [hg, IntWalk.i64_in _ (by omega)]
        unfold nsg
        simp only [hx, decide_false, Bool.false_eq_true, if_false]
        rfl
    · have hQ := hQ1 hc
      rw [ez] at hb ⊢
      have hbump : bump up (decide (x < 0)) (R) = 0 := by unfold bump; exact if_neg (by rw [show (up != decide (x < 0)) = !(up == decide (x < 0)) from rfl, hb]; simp)
      rw [hbump, Nat.add_zero] at hfail hgood
      have hcond : ∀ w : Int, ((decide (4611686018427387904 < w) || decide (w = 0) && decide (R ≠ 0) && !(up == decide (x < 0))) = true ↔ 4611686018427387904 < w) := fun w => by
        rw [Bool.and_assoc, hb, Bool.and_false, Bool.or_false, decide_eq_true_eq]
      refine ⟨fun h1 h2 => by rw [decide_eq_false h1, decide_eq_true h2]; rfl, fun h1 h2 => by rw [decide_eq_false h1, h2]; rfl, fun hcc => fin _ _ _ (hfail (by have := (hcond _).1 hcc; omega)), fun hcc => ?_⟩
      have hsm : Q ≤ 4611686018427387904 := by
        refine Nat.le_of_not_lt fun hh => ?_
        have := (hcond (Q : Int)).2 (by omega)
        rw [hcc] at this; cases this
      have hg := hgood hsm
      refine ⟨fun hx => fin _ _ _ ?_, fun hx => fin _ _ _ ?_⟩
      · rw [hg, IntWalk.i64_in (Q : Int) (by omega), IntWalk.i64_in _ (by omega)]
        unfold nsg
        simp only [hx, decide_true, if_true]
        congr 1 <;> omega
      · rw [hg, IntWalk.i64_in _ (by omega)]
        unfold nsg
        simp only [hx, decide_false, Bool.false_eq_true, if_false]
  · exact h.1.elim
def P2 : Env := { ct := fun n => match n with | 37 => some numC | 51 => some lessC | 27 => some overC | _ => none, fn := fun _ => none, meth := fun _ _ => none }
theorem P2_ct37 : P2.ct 37 = some numC := rfl
theorem P2_ct51 : P2.ct 51 = some lessC := rfl
theorem P2_ct27 : P2.ct 27 = some overC := rfl
theorem P2_ok : EnvOk Try.prog P2 := by
  refine ⟨fun f c h => ?_, fun f vf h => ?_, (fun _ _ _ h => by cases h), by kernel_rfl, (fun _ h => by cases h)⟩
  · simp only [P2] at h
    split at h
    · cases h; exact ⟨num_ok, Try.f37, Try.func37, by kernel_rfl, by kernel_rfl⟩
    · cases h; exact ⟨less_ok, Try.f51, Try.func51, by kernel_rfl, by kernel_rfl⟩
    · cases h; exact ⟨over_ok, Try.f27, Try.func27, by kernel_rfl, by kernel_rfl⟩
    · cases h
  · cases h
theorem fit_ok : fitC.ok Try.prog 28 := by
  refine contract Try.func28 v28_is P2_ok 200 fitC fun args k h => ⟨args, ?_⟩
  simp only [fitC] at h
  split at h
  · rename_i a b
    refine ⟨by simp [leL, le], ?_⟩
    (try dsimp only [v28, P2_ct37, numC, go_sem, reduceIte])
    (try simp only [t_all, forall_const, ne_eq, implies_true, Nat.reduceAdd, Nat.reduceLeDiff, reduceCtorEq, Nat.reduceEqDiff])
    refine ⟨fun hc => ?_, fun hc => ?_⟩
    · rw [fitF, if_neg (by rw [← Bool.not_and, Bool.not_eq_true'] at hc; simp [hc])] at h
      exact ans_le (show k _ [] from h) (le_self (.tup [.agg (enc2 (0, 0)), .int .i64 7]) ⟨⟨trivial, trivial, trivial⟩, trivial, trivial⟩) (fun _ => by simp [enc2, freshS, freshL])
    · rw [fitF, if_pos (by rw [← Bool.not_and, Bool.not_eq_false'] at hc; exact hc)] at h
      exact ans_le (show k _ [] from h) (le_self (.tup [.agg (enc2 (a, b)), .int .i64 0]) ⟨⟨trivial, trivial, trivial⟩, trivial, trivial⟩) (fun _ => by simp [enc2, freshS, freshL])
  · exact h.1.elim
theorem span_ok : spanC.ok Try.prog 42 := by
  refine contract Try.func42 v42_is P2_ok 400 spanC fun args k h => ?_
  simp only [spanC] at h
  split at h
  · rename_i d tt z n sz get
    obtain ⟨x, r, ⟨⟨rfl, rfl, hg⟩, hmax, hbig, hd0, hd1⟩, h⟩ := h
    refine ⟨[.int .u64 d, .vs tt z (x :: r).length 3 (fun k => longE ((x :: r).getD k default))], ⟨⟨rfl, rfl⟩, by simpa [le] using hg, trivial⟩, ?_⟩
    (try dsimp only [v42, longE, go_sem, reduceIte])
    (try simp only [t_all, forall_const, ne_eq, implies_true, Nat.reduceAdd, Nat.reduceLeDiff, reduceCtorEq, Nat.reduceEqDiff])
    have hlen : ((x :: r).length : Int) = r.length + 1 := by simp
    refine ⟨⟨by decide, by omega⟩, ⟨by decide, by omega⟩, ⟨by decide, by omega⟩, ?_⟩
    have hlen2 : (x :: r).length - (0 + 1) = r.length := by simp
    refine Loop.keep [0, 0, 2, 0, 0, 0, 13, 0] Nat (fun i => [(23, .int .i64 i)]) (fun i => [(1, .box (longE (lowI x (r.take i)))), (2, .box (longE (highI x (r.take i))))]) [] (fun i => i ≤ r.length) (fun i => r.length - i) ?_ ?_
    · refine ⟨0, Nat.zero_le _, ?_⟩
      (try dsimp only [longE, go_sem, reduceIte])
      simp only [fin_all, imp_self, implies_true, true_and, and_true]
      refine ⟨by simp, ?_, ?_⟩ <;> simp [lowI, highI] <;> rfl
    · rintro i hi
      (try dsimp only [P2_ct51, P2_ct27, lessC, overC, longE, Int.toNat_natCast, go_sem, reduceIte])
      (try simp only [t_all, forall_const, ne_eq, implies_true, Nat.reduceAdd, Nat.reduceLeDiff, reduceCtorEq, Nat.reduceEqDiff])
      have ey : (x :: r).getD (1 + i) default = r.getD i default := by rw [Nat.add_comm]; rfl
      have elen : (((x :: r).length - 1 : Nat) : Int) = r.length := by simp
      simp only [ey, elen]
      refine ⟨fun hlt => ⟨⟨by omega, by omega⟩, r.getD i default, lowI x (r.take i), ⟨longP_self _, longP_self _⟩, ?_⟩, fun hge => ?_⟩
      · have eL : lowI x (r.take (i + 1)) = if r.getD i default < lowI x (r.take i) then r.getD i default else lowI x (r.take i) := foldl_take_succ (by omega)
        have eH : highI x (r.take (i + 1)) = if highI x (r.take i) < r.getD i default then r.getD i default else highI x (r.take i) := foldl_take_succ (by omega)
        have hw := w_succ (i := i) (n := r.length) (by omega) (by omega)
        refine ⟨fun h1 => ⟨highI x (r.take i), r.getD i default, ⟨longP_self _, longP_self _⟩, fun h2 => ⟨i + 1, by omega, by omega, ?_⟩, fun h2 => ⟨i + 1, by omega, by omega, ?_⟩⟩,
          fun h1 => ⟨highI x (r.take i), r.getD i default, ⟨longP_self _, longP_self _⟩, fun h2 => ⟨i + 1, by omega, by omega, ?_⟩, fun h2 => ⟨i + 1, by omega, by omega, ?_⟩⟩⟩
        · simp only [eL, eH, if_pos h1, if_pos h2, hw, fin_all, imp_self, implies_true, true_and, and_true]
          simp
        · simp only [eL, eH, if_pos h1, if_neg h2, hw, fin_all, imp_self, implies_true, true_and, and_true]
          simp
        · simp only [eL, eH, if_neg h1, if_pos h2, hw, fin_all, imp_self, implies_true, true_and, and_true]
          simp
        · simp only [eL, eH, if_neg h1, if_neg h2, hw, fin_all, imp_self, implies_true, true_and, and_true]
          simp
      · obtain rfl : i = r.length := by omega
        rw [List.take_length]
        have hl := lowI_spec x r
        have hh := highI_spec x r
        refine ⟨lowI x r, ⟨longP_self _, hbig _ hl.1, hd0, hd1⟩, by decide, by decide, highI x r, ⟨longP_self _, hbig _ hh.1, hd0, hd1⟩, by decide, by decide, ?_⟩
        have h : k (.tup [.agg (enc2 (spanI d x r).1), .int .i64 (spanI d x r).2]) [] := h
        unfold spanI spanR at h
        refine ⟨fun hb => ?_, fun hb => ?_⟩
        · rw [if_neg (by rw [← Bool.not_and, Bool.not_eq_true'] at hb; rw [hb]; simp)] at h
          exact ans_le (show k _ [] from h) (le_self (.tup [.agg (enc2 (0, 0)), .int .i64 7]) ⟨⟨trivial, trivial, trivial⟩, trivial, trivial⟩) (fun _ => by simp [enc2, freshS, freshL])
        · rw [if_pos (by rw [← Bool.not_and, Bool.not_eq_false'] at hb; exact hb)] at h
          exact ans_le (show k _ [] from h) (le_self (.tup [.agg (enc2 ((rndF false (lowI x r) d).1, (rndF true (highI x r) d).1)), .int .i64 0]) ⟨⟨trivial, trivial, trivial⟩, trivial, trivial⟩) (fun _ => by simp [enc2, freshS, freshL])
  · exact h.1.elim
end Go.Proofs.Ytijadllhfgajlaa
set_option linter.all false
namespace Go.Proofs.Ytijadllhfgajlaa
open Go Go.Vx
set_option maxRecDepth 100000
set_option maxHeartbeats 4000000
def v16 : VF := { ntmps := 37, res := [.cell 4 true 2, .tmp 5], body :=
 (.seq (.region [u1 2 .box [.tm 0],
 u1 3 .box [.tm 1],
 u1 4 (.alloc [(.int .i64 0), (.int .i64 0)]) [],
 u1 5 .mov [.cn (.int .i64 0)]])
 (.seq (.seq (.region [u1 7 (.load true 2) [.tm 2],
 u1 8 (.load true 2) [.tm 3],
 u1 9 (.buildSlice 2 2 [(.int .i64 0), (.int .i64 0)] [(0, 2), (2, 2)]) [.tm 7, .tm 8],
 u1 10 (.call 25) [.tm 9],
 u1 6 .mov [.tm 10]])
 (.seq (.region [u1 11 .mov [.tm 6],
 u1 12 (.cmp .neq) [.tm 11, .cn (.int .i64 0)]])
 (.cond (.tm 12) (.seq (.region [u1 13 (.build [(.int .i64 0), (.int .i64 0)] []) [],
 u1 14 .mov [.tm 6],
 u0 (.store 2) [.tm 4, .tm 13],
 u1 5 .mov [.tm 14]])
 .ret)
  .skip)))
 (.seq (.seq (.region [u1 15 (.fieldAddr 1) [.tm 2],
 u1 16 (.load false 1) [.tm 15],
 u1 17 (.cmp .eql) [.tm 16, .cn (.int .i64 4611686018427387904)],
 u1 18 .mov [.tm 17],
 u2 19 18 true (.fieldAddr 1) [.tm 3],
 u2 20 18 true (.load false 1) [.tm 19],
 u2 21 18 true (.cmp .eql) [.tm 20, .cn (.int .i64 4611686018427387904)],
 u1 22 .and [.tm 18, .tm 21]])
 (.cond (.tm 22) (.seq (.region [u1 23 (.build [(.int .i64 0), (.int .i64 0)] []) [],
 u0 (.store 2) [.tm 4, .tm 23],
 u1 5 .mov [.cn (.int .i64 7)]])
 .ret)
  .skip))
 (.seq (.region [u1 24 (.fieldAddr 0) [.tm 2],
 u1 25 (.load false 1) [.tm 24],
 u1 26 (.fieldAddr 0) [.tm 3],
 u1 27 (.load false 1) [.tm 26],
 u1 28 (.ari .add) [.tm 25, .tm 27],
 u1 29 (.fieldAddr 1) [.tm 2],
 u1 30 (.load false 1) [.tm 29],
 u1 31 (.fieldAddr 1) [.tm 3],
 u1 32 (.load false 1) [.tm 31],
 u1 33 (.ari .add) [.tm 30, .tm 32],
 u1 34 (.call 28) [.tm 28, .tm 33],
 u1 35 (.ext 0) [.tm 34],
 u1 36 (.ext 1) [.tm 34],
 u0 (.store 2) [.tm 4, .tm 35],
 u1 5 .mov [.tm 36]])
 .ret)))) }
theorem v16_is : vfunc Try.prog Try.f16 = some v16 := by kernel_rfl
def v15 : VF := { ntmps := 26, res := [.cell 4 true 2, .tmp 5], body :=
 (.seq (.region [u1 2 .box [.tm 0],
 u1 3 .box [.tm 1],
 u1 4 (.alloc [(.int .i64 0), (.int .i64 0)]) [],
 u1 5 .mov [.cn (.int .i64 0)]])
 (.seq (.seq (.region [u1 7 (.load true 2) [.tm 2],
 u1 8 (.load true 2) [.tm 3],
 u1 9 (.buildSlice 2 2 [(.int .i64 0), (.int .i64 0)] [(0, 2), (2, 2)]) [.tm 7, .tm 8],
 u1 10 (.call 25) [.tm 9],
 u1 6 .mov [.tm 10]])
 (.seq (.region [u1 11 .mov [.tm 6],
 u1 12 (.cmp .neq) [.tm 11, .cn (.int .i64 0)]])
 (.cond (.tm 12) (.seq (.region [u1 13 (.build [(.int .i64 0), (.int .i64 0)] []) [],
 u1 14 .mov [.tm 6],
 u0 (.store 2) [.tm 4, .tm 13],
 u1 5 .mov [.tm 14]])
 .ret)
  .skip)))
 (.seq (.region [u1 15 (.load true 2) [.tm 2],
 u1 16 (.fieldAddr 1) [.tm 3],
 u1 17 (.load false 1) [.tm 16],
 u1 18 .neg [.tm 17],
 u1 19 (.fieldAddr 0) [.tm 3],
 u1 20 (.load false 1) [.tm 19],
 u1 21 .neg [.tm 20],
 u1 22 (.build [(.int .i64 0), (.int .i64 0)] [(0, 1), (1, 1)]) [.tm 18, .tm 21],
 u1 23 (.call 16) [.tm 15, .tm 22],
 u1 24 (.ext 0) [.tm 23],
 u1 25 (.ext 1) [.tm 23],
 u0 (.store 2) [.tm 4, .tm 24],
 u1 5 .mov [.tm 25]])
 .ret))) }
theorem v15_is : vfunc Try.prog Try.f15 = some v15 := by kernel_rfl
def v34 : VF := { ntmps := 41, res := [.cell 4 true 2, .tmp 5], body :=
 (.seq (.region [u1 2 .box [.tm 0],
 u1 3 .box [.tm 1],
 u1 4 (.alloc [(.int .i64 0), (.int .i64 0)]) [],
 u1 5 .mov [.cn (.int .i64 0)]])
 (.seq (.seq (.region [u1 8 (.load true 2) [.tm 2],
 u1 9 (.load true 2) [.tm 3],
 u1 10 (.buildSlice 2 2 [(.int .i64 0), (.int .i64 0)] [(0, 2), (2, 2)]) [.tm 8, .tm 9],
 u1 11 (.call 25) [.tm 10],
 u1 6 .mov [.tm 11]])
 (.seq (.region [u1 12 .mov [.tm 6],
 u1 13 (.cmp .neq) [.tm 12, .cn (.int .i64 0)]])
 (.cond (.tm 13) (.seq (.region [u1 14 (.build [(.int .i64 0), (.int .i64 0)] []) [],
 u1 15 .mov [.tm 6],
 u0 (.store 2) [.tm 4, .tm 14],
 u1 5 .mov [.tm 15]])
 .ret)
  .skip)))
 (.seq (.draw [(7, .arr 4 3 [(.bool false), (.int .u64 0), (.int .u64 0), (.bool false), (.int .u64 0), (.int .u64 0), (.bool false), (.int .u64 0), (.int .u64 0), (.bool false), (.int .u64 0), (.int .u64 0)])] [w1 16 (.fieldAddr 0) [.tm 2],
 w1 17 (.load false 1) [.tm 16],
 w1 18 (.fieldAddr 0) [.tm 3],
 w1 19 (.load false 1) [.tm 18],
 w1 21 (.fieldAddr 0) [.tm 2],
 w1 22 (.load false 1) [.tm 21],
 w1 23 (.fieldAddr 1) [.tm 3],
 w1 24 (.load false 1) [.tm 23],
 w1 26 (.fieldAddr 1) [.tm 2],
 w1 27 (.load false 1) [.tm 26],
 w1 28 (.fieldAddr 0) [.tm 3],
 w1 29 (.load false 1) [.tm 28],
 w1 31 (.fieldAddr 1) [.tm 2],
 w1 32 (.load false 1) [.tm 31],
 w1 33 (.fieldAddr 1) [.tm 3],
 w1 34 (.load false 1) [.tm 33],
 w1 20 (.call 26) [.tm 17, .tm 19],
 w1 25 (.call 26) [.tm 22, .tm 24],
 w1 30 (.call 26) [.tm 27, .tm 29],
 w1 35 (.call 26) [.tm 32, .tm 34],
 w1 36 (.build [(.bool false), (.int .u64 0), (.int .u64 0), (.bool false), (.int .u64 0), (.int .u64 0), (.bool false), (.int .u64 0), (.int .u64 0), (.bool false), (.int .u64 0), (.int .u64 0)] [(0, 3), (3, 3), (6, 3), (9, 3)]) [.tm 20, .tm 25, .tm 30, .tm 35],
 w0 (.store 12) [.tm 7, .tm 36]])
 (.seq (.region [u1 37 (.sliceArr 4 3 false false) [.tm 7],
 u1 38 (.call 42) [.cn (.int .u64 1), .tm 37],
 u1 39 (.ext 0) [.tm 38],
 u1 40 (.ext 1) [.tm 38],
 u0 (.store 2) [.tm 4, .tm 39],
 u1 5 .mov [.tm 40]])
 .ret)))) }
theorem v34_is : vfunc Try.prog Try.f34 = some v34 := by kernel_rfl
def v14 : VF := { ntmps := 89, res := [.cell 4 true 2, .tmp 5], body :=
 (.seq (.region [u1 2 .box [.tm 0],
 u1 3 .box [.tm 1],
 u1 4 (.alloc [(.int .i64 0), (.int .i64 0)]) [],
 u1 5 .mov [.cn (.int .i64 0)]])
 (.seq (.seq (.region [u1 13 (.load true 2) [.tm 2],
 u1 14 (.load true 2) [.tm 3],
 u1 15 (.buildSlice 2 2 [(.int .i64 0), (.int .i64 0)] [(0, 2), (2, 2)]) [.tm 13, .tm 14],
 u1 16 (.call 25) [.tm 15],
 u1 6 .mov [.tm 16]])
 (.seq (.region [u1 17 .mov [.tm 6],
 u1 18 (.cmp .neq) [.tm 17, .cn (.int .i64 0)]])
 (.cond (.tm 18) (.seq (.region [u1 19 (.build [(.int .i64 0), (.int .i64 0)] []) [],
 u1 20 .mov [.tm 6],
 u0 (.store 2) [.tm 4, .tm 19],
 u1 5 .mov [.tm 20]])
 .ret)
  .skip)))
 (.seq (.seq (.region [u1 21 (.fieldAddr 0) [.tm 3],
 u1 22 (.load false 1) [.tm 21],
 u1 23 (.cmp .leq) [.tm 22, .cn (.int .i64 0)],
 u1 24 .mov [.tm 23],
 u2 25 24 true (.fieldAddr 1) [.tm 3],
 u2 26 24 true (.load false 1) [.tm 25],
 u2 27 24 true (.cmp .geq) [.tm 26, .cn (.int .i64 0)],
 u1 28 .and [.tm 24, .tm 27]])
 (.cond (.tm 28) (.seq (.region [u1 29 (.build [(.int .i64 0), (.int .i64 0)] []) [],
 u0 (.store 2) [.tm 4, .tm 29],
 u1 5 .mov [.cn (.int .i64 9)]])
 .ret)
  .skip))
 (.seq (.seq (.region [u1 30 (.fieldAddr 1) [.tm 3],
 u1 31 (.load false 1) [.tm 30],
 u1 32 (.cmp .lss) [.tm 31, .cn (.int .i64 0)]])
 (.cond (.tm 32) (.draw [] [w1 33 (.fieldAddr 1) [.tm 2],
 w1 34 (.load false 1) [.tm 33],
 w1 35 .neg [.tm 34],
 w1 36 (.fieldAddr 0) [.tm 2],
 w1 37 (.load false 1) [.tm 36],
 w1 38 .neg [.tm 37],
 w1 39 (.build [(.int .i64 0), (.int .i64 0)] [(0, 1), (1, 1)]) [.tm 35, .tm 38],
 w1 40 (.fieldAddr 1) [.tm 3],
 w1 41 (.load false 1) [.tm 40],
 w1 42 .neg [.tm 41],
 w1 43 (.fieldAddr 0) [.tm 3],
 w1 44 (.load false 1) [.tm 43],
 w1 45 .neg [.tm 44],
 w1 46 (.build [(.int .i64 0), (.int .i64 0)] [(0, 1), (1, 1)]) [.tm 42, .tm 45],
 ⟨u0 (.store 2) [.tm 2, .tm 39], [.tm 40, .tm 43]⟩,
 w0 (.store 2) [.tm 3, .tm 46]])
  .skip))
 (.seq (.draw [] [w1 47 (.fieldAddr 1) [.tm 3],
 w1 48 (.load false 1) [.tm 47],
 w1 49 (.fieldAddr 0) [.tm 3],
 w1 50 (.load false 1) [.tm 49],
 w1 7 .mov [.tm 48],
 w1 8 .mov [.tm 50]])
 (.seq (.seq (.region [u1 51 (.fieldAddr 0) [.tm 2],
 u1 52 (.load false 1) [.tm 51],
 u1 53 (.cmp .lss) [.tm 52, .cn (.int .i64 0)]])
 (.cond (.tm 53) (.region [u1 54 (.fieldAddr 0) [.tm 3],
 u1 55 (.load false 1) [.tm 54],
 u1 7 .mov [.tm 55]])
  .skip))
 (.seq (.seq (.region [u1 56 (.fieldAddr 1) [.tm 2],
 u1 57 (.load false 1) [.tm 56],
 u1 58 (.cmp .lss) [.tm 57, .cn (.int .i64 0)]])
 (.cond (.tm 58) (.region [u1 59 (.fieldAddr 1) [.tm 3],
 u1 60 (.load false 1) [.tm 59],
 u1 8 .mov [.tm 60]])
  .skip))
 (.seq (.region [u1 62 (.fieldAddr 0) [.tm 2],
 u1 63 (.load false 1) [.tm 62],
 u1 64 (.call 26) [.tm 63, .cn (.int .i64 1)],
 u1 65 .mov [.tm 7],
 u1 66 (.conv .u64) [.tm 65],
 u1 67 (.call 27) [.tm 64, .tm 66, .cn (.bool false)],
 u1 61 .mov [.tm 67],
 u1 68 (.ext 0) [.tm 61],
 u1 69 (.ext 1) [.tm 61],
 u1 9 .mov [.tm 68],
 u1 10 .mov [.tm 69]])
 (.seq (.region [u1 71 (.fieldAddr 1) [.tm 2],
 u1 72 (.load false 1) [.tm 71],
 u1 73 (.call 26) [.tm 72, .cn (.int .i64 1)],
 u1 74 .mov [.tm 8],
 u1 75 (.conv .u64) [.tm 74],
 u1 76 (.call 27) [.tm 73, .tm 75, .cn (.bool true)],
 u1 70 .mov [.tm 76],
 u1 77 (.ext 0) [.tm 70],
 u1 78 (.ext 1) [.tm 70],
 u1 11 .mov [.tm 77],
 u1 12 .mov [.tm 78]])
 (.seq (.seq (.region [u1 79 .mov [.tm 10],
 u1 80 .not [.tm 79],
 u1 81 .mov [.tm 80],
 u2 82 81 false .mov [.tm 12],
 u2 83 81 false .not [.tm 82],
 u1 84 .or [.tm 81, .tm 83]])
 (.cond (.tm 84) (.seq (.region [u1 85 (.build [(.int .i64 0), (.int .i64 0)] []) [],
 u0 (.store 2) [.tm 4, .tm 85],
 u1 5 .mov [.cn (.int .i64 7)]])
 .ret)
  .skip))
 (.seq (.region [u1 86 .mov [.tm 9],
 u1 87 .mov [.tm 11],
 u1 88 (.build [(.int .i64 0), (.int .i64 0)] [(0, 1), (1, 1)]) [.tm 86, .tm 87],
 u0 (.store 2) [.tm 4, .tm 88],
 u1 5 .mov [.cn (.int .i64 0)]])
 .ret))))))))))) }
theorem v14_is : vfunc Try.prog Try.f14 = some v14 := by kernel_rfl
def v36 : VF := { ntmps := 45, res := [.cell 6 true 2, .tmp 7], body :=
 (.seq (.region [u1 3 .box [.tm 0],
 u1 6 (.alloc [(.int .i64 0), (.int .i64 0)]) [],
 u1 7 .mov [.cn (.int .i64 0)]])
 (.seq (.region [u1 9 (.load true 2) [.tm 3],
 u1 10 (.buildSlice 2 1 [(.int .i64 0), (.int .i64 0)] [(0, 2)]) [.tm 9],
 u1 11 (.call 25) [.tm 10],
 u1 8 .mov [.tm 11]])
 (.seq (.block 0 (.seq (.region [u1 13 .mov [.tm 8],
 u1 14 (.cmp .neq) [.tm 13, .cn (.int .i64 0)],
 u1 12 .mov [.tm 14]])
 (.cond (.tm 12) (.seq (.region [u1 15 (.build [(.int .i64 0), (.int .i64 0)] []) [],
 u1 16 .mov [.tm 8],
 u0 (.store 2) [.tm 6, .tm 15],
 u1 7 .mov [.tm 16]])
 .ret)
  (.seq (.region [u1 18 .mov [.tm 2],
 u1 19 (.cmp .lss) [.tm 18, .cn (.int .i64 1)],
 u1 20 .mov [.tm 19],
 u2 21 20 false .mov [.tm 2],
 u2 22 20 false (.call 37) [.tm 21],
 u2 23 20 false .not [.tm 22],
 u1 24 .or [.tm 20, .tm 23],
 u1 25 .mov [.tm 24],
 u2 26 25 false .mov [.tm 1],
 u2 27 25 false (.call 37) [.tm 26],
 u2 28 25 false .not [.tm 27],
 u1 29 .or [.tm 25, .tm 28],
 u1 17 .mov [.tm 29]])
 (.cond (.tm 17) (.seq (.region [u1 30 (.build [(.int .i64 0), (.int .i64 0)] []) [],
 u0 (.store 2) [.tm 6, .tm 30],
 u1 7 .mov [.cn (.int .i64 2)]])
 .ret)
  .skip)))))
 (.seq (.draw [] [w1 31 .mov [.tm 2],
 w1 32 (.conv .u64) [.tm 31],
 w1 33 (.fieldAddr 0) [.tm 3],
 w1 34 (.load false 1) [.tm 33],
 w1 35 .mov [.tm 1],
 w1 37 (.fieldAddr 1) [.tm 3],
 w1 38 (.load false 1) [.tm 37],
 w1 39 .mov [.tm 1],
 w1 36 (.call 26) [.tm 34, .tm 35],
 w1 40 (.call 26) [.tm 38, .tm 39],
 w1 41 (.buildSlice 3 2 [(.bool false), (.int .u64 0), (.int .u64 0)] [(0, 3), (3, 3)]) [.tm 36, .tm 40],
 w1 42 (.call 42) [.tm 32, .tm 41],
 w1 43 (.ext 0) [.tm 42],
 w1 44 (.ext 1) [.tm 42],
 w0 (.store 2) [.tm 6, .tm 43],
 w1 7 .mov [.tm 44]])
 .ret)))) }
theorem v36_is : vfunc Try.prog Try.f36 = some v36 := by kernel_rfl
def iv2C (f : Iv → Iv → Iv × Int) : Ctr := { alias := false, of := fun a => match a with
  | [.agg [.int .i64 x, .int .i64 y], .agg [.int .i64 z, .int .i64 w]] => .fin (.tup [.agg (enc2 (f (x, y) (z, w)).1), .int .i64 (f (x, y) (z, w)).2]) []
  | _ => noC }
def ivoC (f : Iv → Iv × Int) : Ctr := { alias := false, of := fun a => match a with
  | [.agg [.int .i64 x, .int .i64 y]] => .fin (.tup [.agg (enc2 (f (x, y)).1), .int .i64 (f (x, y)).2]) []
  | _ => noC }
def addC := iv2C addF
def subC := iv2C subF
def mulC := iv2C mulF
def quoC := iv2C quoF
def sclC : Ctr := { alias := false, of := fun a => match a with
  | [.agg [.int .i64 x, .int .i64 y], .int .i64 n, .int .i64 d] => .fin (.tup [.agg (enc2 (sclF (x, y) n d).1), .int .i64 (sclF (x, y) n d).2]) []
  | _ => noC }
def P3 : Env := { ct := fun n => match n with | 37 => some numC | 25 => some ivlC | 26 => some timC | 27 => some overC | 42 => some spanC | 28 => some fitC | _ => none, fn := fun _ => none, meth := fun _ _ => none }
theorem P3_ct25 : P3.ct 25 = some ivlC := rfl
theorem P3_ct28 : P3.ct 28 = some fitC := rfl
theorem P3_ok : EnvOk Try.prog P3 := by
  refine ⟨fun f c h => ?_, fun f vf h => ?_, (fun _ _ _ h => by cases h), by kernel_rfl, (fun _ h => by cases h)⟩
  · simp only [P3] at h
    split at h
    · cases h; exact ⟨num_ok, Try.f37, Try.func37, by kernel_rfl, by kernel_rfl⟩
    · cases h; exact ⟨ivl_ok, Try.f25, Try.func25, by kernel_rfl, by kernel_rfl⟩
    · cases h; exact ⟨tim_ok, Try.f26, Try.func26, by kernel_rfl, by kernel_rfl⟩
    · cases h; exact ⟨over_ok, Try.f27, Try.func27, by kernel_rfl, by kernel_rfl⟩
    · cases h; exact ⟨span_ok, Try.f42, Try.func42, by kernel_rfl, by kernel_rfl⟩
    · cases h; exact ⟨fit_ok, Try.f28, Try.func28, by kernel_rfl, by kernel_rfl⟩
    · cases h
  · cases h
theorem ans_iv {k : SV → List HO → Prop} {al : Bool} {hp : List HO} {r : Iv × Int} (h : k (.tup [.agg (enc2 r.1), .int .i64 r.2]) []) : answers al k (.tup [.agg [.int .i64 r.1.1, .int .i64 r.1.2], .int .i64 r.2]) hp :=
  ans_le (show k _ [] from h) (le_self (.tup [.agg (enc2 r.1), .int .i64 r.2]) ⟨⟨trivial, trivial, trivial⟩, trivial, trivial⟩) (fun _ => by simp [enc2, freshS, freshL])
theorem big_mul {a b : Int} (ha : -9223372036854775808 ≤ a ∧ a ≤ 9223372036854775808) (hb : -9223372036854775808 ≤ b ∧ b ≤ 9223372036854775808) : big (a * b) := by
  unfold big
  rw [Int.natAbs_mul]
  have := Nat.mul_le_mul (show a.natAbs ≤ 9223372036854775808 by omega) (show b.natAbs ≤ 9223372036854775808 by omega)
  omega
theorem big1 {a : Int} (ha : -9223372036854775808 ≤ a ∧ a ≤ 9223372036854775808) : big a := by
  unfold big; omega
theorem neg_in {a : Int} (h : -4611686018427387904 ≤ a ∧ a ≤ 4611686018427387904) : IntKind.i64.wrap (0 - a) = -a := by rw [IntWalk.i64_in _ (by omega)]; omega
theorem add_ok : addC.ok Try.prog 16 := by
  refine contract Try.func16 v16_is P3_ok 200 addC fun args k h => ⟨args, ?_⟩
  simp only [addC, iv2C] at h
  split at h
  · rename_i x y z w
    refine ⟨by simp [leL, le], ?_⟩
    (try dsimp only [v16, P3_ct25, P3_ct28, ivlC, fitC, enc2, go_sem, reduceIte])
    (try simp only [t_all, forall_const, ne_eq, implies_true, Nat.reduceAdd, Nat.reduceLeDiff, reduceCtorEq, Nat.reduceEqDiff])
    have h : k (.tup [.agg (enc2 (addF (x, y) (z, w)).1), .int .i64 (addF (x, y) (z, w)).2]) [] := h
    refine ⟨by decide, [(x, y), (z, w)], ⟨⟨rfl, rfl, fun k hk => match k, hk with | 0, _ => leXL_self _ | 1, _ => leXL_self _⟩, by simp⟩, fun hc => ?_, fun hc => ?_⟩
    · rw [addF, if_pos hc] at h
      exact ans_iv (r := errI (ivE [(x, y), (z, w)])) h
    · obtain ⟨⟨h1, h2, h3⟩, h4, h5, h6⟩ := ivE2 hc
      dsimp only at h1 h2 h3 h4 h5 h6
      rw [addF, if_neg (by rw [hc]; simp)] at h
      dsimp only at h
      refine ⟨fun hm => ?_, fun hm => ⟨by decide, by decide, ?_⟩⟩
      · rw [Bool.and_eq_true, decide_eq_true_eq, decide_eq_true_eq] at hm
        have : numOk (y + w) = false := by
          rw [Bool.eq_false_iff]; intro hh; have := numOk_iff.1 hh; omega
        rw [fitF, this, Bool.and_false] at h
        exact ans_iv (r := ((0, 0), 7)) h
      · rw [Bool.and_eq_false_iff, decide_eq_false_iff_not, decide_eq_false_iff_not] at hm
        rw [IntWalk.i64_in (x + z) (by omega), IntWalk.i64_in (y + w) (by omega)]
        exact ans_iv h
  · exact h.1.elim
def P4 : Env := { ct := fun n => match n with | 37 => some numC | 25 => some ivlC | 26 => some timC | 27 => some overC | 42 => some spanC | 28 => some fitC | 16 => some addC | _ => none, fn := fun _ => none, meth := fun _ _ => none }
theorem P4_ct37 : P4.ct 37 = some numC := rfl
theorem P4_ct25 : P4.ct 25 = some ivlC := rfl
theorem P4_ct26 : P4.ct 26 = some timC := rfl
theorem P4_ct27 : P4.ct 27 = some overC := rfl
theorem P4_ct42 : P4.ct 42 = some spanC := rfl
theorem P4_ct16 : P4.ct 16 = some addC := rfl
theorem P4_ok : EnvOk Try.prog P4 := by
  refine ⟨fun f c h => ?_, fun f vf h => ?_, (fun _ _ _ h => by cases h), by kernel_rfl, (fun _ h => by cases h)⟩
  · simp only [P4] at h
    split at h
    · cases h; exact ⟨num_ok, Try.f37, Try.func37, by kernel_rfl, by kernel_rfl⟩
    · cases h; exact ⟨ivl_ok, Try.f25, Try.func25, by kernel_rfl, by kernel_rfl⟩
    · cases h; exact ⟨tim_ok, Try.f26, Try.func26, by kernel_rfl, by kernel_rfl⟩
    · cases h; exact ⟨over_ok, Try.f27, Try.func27, by kernel_rfl, by kernel_rfl⟩
    · cases h; exact ⟨span_ok, Try.f42, Try.func42, by kernel_rfl, by kernel_rfl⟩
    · cases h; exact ⟨fit_ok, Try.f28, Try.func28, by kernel_rfl, by kernel_rfl⟩
    · cases h; exact ⟨add_ok, Try.f16, Try.func16, by kernel_rfl, by kernel_rfl⟩
    · cases h
  · cases h
theorem sub_ok : subC.ok Try.prog 15 := by
  refine contract Try.func15 v15_is P4_ok 200 subC fun args k h => ⟨args, ?_⟩
  simp only [subC, iv2C] at h
  split at h
  · rename_i x y z w
    refine ⟨by simp [leL, le], ?_⟩
    (try dsimp only [v15, P4_ct25, P4_ct16, ivlC, addC, iv2C, enc2, go_sem, reduceIte])
    (try simp only [t_all, forall_const, ne_eq, implies_true, Nat.reduceAdd, Nat.reduceLeDiff, reduceCtorEq, Nat.reduceEqDiff])
    have h : k (.tup [.agg (enc2 (subF (x, y) (z, w)).1), .int .i64 (subF (x, y) (z, w)).2]) [] := h
    refine ⟨by decide, [(x, y), (z, w)], ⟨⟨rfl, rfl, fun k hk => match k, hk with | 0, _ => leXL_self _ | 1, _ => leXL_self _⟩, by simp⟩, fun hc => ?_, fun hc => ?_⟩
    · rw [subF, if_pos hc] at h
      exact ans_iv (r := errI (ivE [(x, y), (z, w)])) h
    · obtain ⟨⟨h1, h2, h3⟩, h4, h5, h6⟩ := ivE2 hc
      dsimp only at h1 h2 h3 h4 h5 h6
      rw [subF, if_neg (by rw [hc]; simp)] at h
      dsimp only at h
      rw [neg_in h4, neg_in h5]
      exact ⟨by decide, by decide, ans_iv h⟩
  · exact h.1.elim
theorem mul_ok : mulC.ok Try.prog 34 := by
  refine contract Try.func34 v34_is P4_ok 200 mulC fun args k h => ⟨args, ?_⟩
  simp only [mulC, iv2C] at h
  split at h
  · rename_i x y z w
    refine ⟨by simp [leL, le], ?_⟩
    (try dsimp only [v34, P4_ct25, P4_ct26, P4_ct42, ivlC, timC, spanC, longE, enc2, go_sem, reduceIte])
    (try simp only [t_all, forall_const, ne_eq, implies_true, Nat.reduceAdd, Nat.reduceLeDiff, reduceCtorEq, Nat.reduceEqDiff])
    have h : k (.tup [.agg (enc2 (mulF (x, y) (z, w)).1), .int .i64 (mulF (x, y) (z, w)).2]) [] := h
    refine ⟨by decide, [(x, y), (z, w)], ⟨⟨rfl, rfl, fun k hk => match k, hk with | 0, _ => leXL_self _ | 1, _ => leXL_self _⟩, by simp⟩, fun hc => ?_, fun hc => ?_⟩
    · rw [mulF, if_pos hc] at h
      exact ans_iv (r := errI (ivE [(x, y), (z, w)])) h
    · obtain ⟨⟨h1, h2, h3⟩, h4, h5, h6⟩ := ivE2 hc
      dsimp only at h1 h2 h3 h4 h5 h6
      rw [mulF, if_neg (by rw [hc]; simp)] at h
      dsimp only at h
      refine ⟨⟨⟨by omega, by omega⟩, by omega, by omega⟩, ⟨⟨by omega, by omega⟩, by omega, by omega⟩, ⟨⟨by omega, by omega⟩, by omega, by omega⟩, ⟨⟨by omega, by omega⟩, by omega, by omega⟩, ?_⟩
      (try dsimp only [P4_ct42, spanC, enc2, go_sem, reduceIte])
      (try simp only [t_all, forall_const, ne_eq, implies_true, Nat.reduceAdd, Nat.reduceLeDiff, reduceCtorEq, Nat.reduceEqDiff])
      refine ⟨by decide, ?_⟩
      (try dsimp only [P4_ct42, spanC, enc2, go_sem, reduceIte])
      (try simp only [t_all, forall_const, ne_eq, implies_true, Nat.reduceAdd, Nat.reduceLeDiff, reduceCtorEq, Nat.reduceEqDiff])
      refine ⟨x * z, [x * w, y * z, y * w], ⟨⟨rfl, rfl, fun k hk => match k, hk with | 0, _ => leXL_self _ | 1, _ => leXL_self _ | 2, _ => leXL_self _ | 3, _ => leXL_self _⟩, by simp, ?_, by decide, by decide⟩, by decide, by decide, ans_iv h⟩
      intro p hp
      simp only [List.mem_cons, List.not_mem_nil, or_false] at hp
      rcases hp with rfl | rfl | rfl | rfl <;> exact big_mul (by omega) (by omega)
  · exact h.1.elim
theorem quo_ok : quoC.ok Try.prog 14 := by
  refine contract Try.func14 v14_is P4_ok 300 quoC fun args k h => ⟨args, ?_⟩
  simp only [quoC, iv2C] at h
  split at h
  · rename_i x y z w
    refine ⟨by simp [leL, le], ?_⟩
    (try dsimp only [v14, P4_ct25, P4_ct26, P4_ct27, ivlC, timC, overC, longE, enc2, go_sem, reduceIte])
    (try simp only [t_all, forall_const, ne_eq, implies_true, Nat.reduceAdd, Nat.reduceLeDiff, reduceCtorEq, Nat.reduceEqDiff])
    have h : k (.tup [.agg (enc2 (quoF (x, y) (z, w)).1), .int .i64 (quoF (x, y) (z, w)).2]) [] := h
    refine ⟨by decide, [(x, y), (z, w)], ⟨⟨rfl, rfl, fun k hk => match k, hk with | 0, _ => leXL_self _ | 1, _ => leXL_self _⟩, by simp⟩, fun hc => ?_, fun hc => ?_⟩
    · rw [quoF, if_pos hc] at h
      exact ans_iv (r := errI (ivE [(x, y), (z, w)])) h
    · obtain ⟨⟨h1, h2, h3⟩, h4, h5, h6⟩ := ivE2 hc
      dsimp only at h1 h2 h3 h4 h5 h6
      rw [quoF, if_neg (by rw [hc]; simp)] at h
      dsimp only at h
      simp only [neg_in h1, neg_in h2, neg_in h4, neg_in h5, Int.mul_one]
      refine ⟨fun hm => ?_, fun hm => ⟨fun hw => ?_, fun hw => ?_⟩⟩
      · rw [Bool.and_eq_true, decide_eq_true_eq, decide_eq_true_eq] at hm
        rw [if_pos hm] at h
        exact ans_iv (r := errI 9) h
      · rw [Bool.and_eq_false_iff, decide_eq_false_iff_not, decide_eq_false_iff_not] at hm
        rw [if_neg (by omega), if_pos hw] at h
        unfold divPos at h
        dsimp only at h
        refine ⟨fun hp => ⟨fun hq => ?_, fun hq => ?_⟩, fun hp => ⟨fun hq => ?_, fun hq => ?_⟩⟩
        · rw [if_pos hp, if_pos hq] at h
          simp (disch := omega) only [IntWalk.u64_in]
          refine ⟨⟨⟨by omega, by omega⟩, by omega, by omega⟩, _, ⟨longP_self _, big1 (by omega), by omega, by omega⟩, by decide, by decide, ⟨⟨by omega, by omega⟩, by omega, by omega⟩, _, ⟨longP_self _, big1 (by omega), by omega, by omega⟩, by decide, by decide, fun hb => ?_, fun hb => ?_⟩
          · rw [spanR, if_neg (by rw [← Bool.not_and, Bool.not_eq_true'] at hb; rw [hb]; simp)] at h
            exact ans_iv (r := ((0, 0), 7)) h
          · rw [spanR, if_pos (by rw [← Bool.not_and, Bool.not_eq_false'] at hb; exact hb)] at h
            exact ans_iv (r := ((_, _), 0)) h
        · rw [if_pos hp, if_neg hq] at h
          simp (disch := omega) only [IntWalk.u64_in]
          refine ⟨⟨⟨by omega, by omega⟩, by omega, by omega⟩, _, ⟨longP_self _, big1 (by omega), by omega, by omega⟩, by decide, by decide, ⟨⟨by omega, by omega⟩, by omega, by omega⟩, _, ⟨longP_self _, big1 (by omega), by omega, by omega⟩, by decide, by decide, fun hb => ?_, fun hb => ?_⟩
          · rw [spanR, if_neg (by rw [← Bool.not_and, Bool.not_eq_true'] at hb; rw [hb]; simp)] at h
            exact ans_iv (r := ((0, 0), 7)) h
          · rw [spanR, if_pos (by rw [← Bool.not_and, Bool.not_eq_false'] at hb; exact hb)] at h
            exact ans_iv (r := ((_, _), 0)) h
        · rw [if_neg hp, if_pos hq] at h
          simp (disch := omega) only [IntWalk.u64_in]
          refine ⟨⟨⟨by omega, by omega⟩, by omega, by omega⟩, _, ⟨longP_self _, big1 (by omega), by omega, by omega⟩, by decide, by decide, ⟨⟨by omega, by omega⟩, by omega, by omega⟩, _, ⟨longP_self _, big1 (by omega), by omega, by omega⟩, by decide, by decide, fun hb => ?_, fun hb => ?_⟩
          · rw [spanR, if_neg (by rw [← Bool.not_and, Bool.not_eq_true'] at hb; rw [hb]; simp)] at h
            exact ans_iv (r := ((0, 0), 7)) h
          · rw [spanR, if_pos (by rw [← Bool.not_and, Bool.not_eq_false'] at hb; exact hb)] at h
            exact ans_iv (r := ((_, _), 0)) h
        · rw [if_neg hp, if_neg hq] at h
          simp (disch := omega) only [IntWalk.u64_in]
          refine ⟨⟨⟨by omega, by omega⟩, by omega, by omega⟩, _, ⟨longP_self _, big1 (by omega), by omega, by omega⟩, by decide, by decide, ⟨⟨by omega, by omega⟩, by omega, by omega⟩, _, ⟨longP_self _, big1 (by omega), by omega, by omega⟩, by decide, by decide, fun hb => ?_, fun hb => ?_⟩
          · rw [spanR, if_neg (by rw [← Bool.not_and, Bool.not_eq_true'] at hb; rw [hb]; simp)] at h
            exact ans_iv (r := ((0, 0), 7)) h
          · rw [spanR, if_pos (by rw [← Bool.not_and, Bool.not_eq_false'] at hb; exact hb)] at h
            exact ans_iv (r := ((_, _), 0)) h
      · rw [Bool.and_eq_false_iff, decide_eq_false_iff_not, decide_eq_false_iff_not] at hm
        rw [if_neg (by omega), if_neg hw] at h
        unfold divPos at h
        dsimp only at h
        refine ⟨fun hp => ⟨fun hq => ?_, fun hq => ?_⟩, fun hp => ⟨fun hq => ?_, fun hq => ?_⟩⟩
        · rw [if_pos hp, if_pos hq] at h
          simp (disch := omega) only [IntWalk.u64_in]
          refine ⟨⟨⟨by omega, by omega⟩, by omega, by omega⟩, _, ⟨longP_self _, big1 (by omega), by omega, by omega⟩, by decide, by decide, ⟨⟨by omega, by omega⟩, by omega, by omega⟩, _, ⟨longP_self _, big1 (by omega), by omega, by omega⟩, by decide, by decide, fun hb => ?_, fun hb => ?_⟩
          · rw [spanR, if_neg (by rw [← Bool.not_and, Bool.not_eq_true'] at hb; rw [hb]; simp)] at h
            exact ans_iv (r := ((0, 0), 7)) h
          · rw [spanR, if_pos (by rw [← Bool.not_and, Bool.not_eq_false'] at hb; exact hb)] at h
            exact ans_iv (r := ((_, _), 0)) h
        · rw [if_pos hp, if_neg hq] at h
          simp (disch := omega) only [IntWalk.u64_in]
          refine ⟨⟨⟨by omega, by omega⟩, by omega, by omega⟩, _, ⟨longP_self _, big1 (by omega), by omega, by omega⟩, by decide, by decide, ⟨⟨by omega, by omega⟩, by omega, by omega⟩, _, ⟨longP_self _, big1 (by omega), by omega, by omega⟩, by decide, by decide, fun hb => ?_, fun hb => ?_⟩
          · rw [spanR, if_neg (by rw [← Bool.not_and, Bool.not_eq_true'] at hb; rw [hb]; simp)] at h
            exact ans_iv (r := ((0, 0), 7)) h
          · rw [spanR, if_pos (by rw [← Bool.not_and, Bool.not_eq_false'] at hb; exact hb)] at h
            exact ans_iv (r := ((_, _), 0)) h
        · rw [if_neg hp, if_pos hq] at h
          simp (disch := omega) only [IntWalk.u64_in]
          refine ⟨⟨⟨by omega, by omega⟩, by omega, by omega⟩, _, ⟨longP_self _, big1 (by omega), by omega, by omega⟩, by decide, by decide, ⟨⟨by omega, by omega⟩, by omega, by omega⟩, _, ⟨longP_self _, big1 (by omega), by omega, by omega⟩, by decide, by decide, fun hb => ?_, fun hb => ?_⟩
          · rw [spanR, if_neg (by rw [← Bool.not_and, Bool.not_eq_true'] at hb; rw [hb]; simp)] at h
            exact ans_iv (r := ((0, 0), 7)) h
          · rw [spanR, if_pos (by rw [← Bool.not_and, Bool.not_eq_false'] at hb; exact hb)] at h
            exact ans_iv (r := ((_, _), 0)) h
        · rw [if_neg hp, if_neg hq] at h
          simp (disch := omega) only [IntWalk.u64_in]
          refine ⟨⟨⟨by omega, by omega⟩, by omega, by omega⟩, _, ⟨longP_self _, big1 (by omega), by omega, by omega⟩, by decide, by decide, ⟨⟨by omega, by omega⟩, by omega, by omega⟩, _, ⟨longP_self _, big1 (by omega), by omega, by omega⟩, by decide, by decide, fun hb => ?_, fun hb => ?_⟩
          · rw [spanR, if_neg (by rw [← Bool.not_and, Bool.not_eq_true'] at hb; rw [hb]; simp)] at h
            exact ans_iv (r := ((0, 0), 7)) h
          · rw [spanR, if_pos (by rw [← Bool.not_and, Bool.not_eq_false'] at hb; exact hb)] at h
            exact ans_iv (r := ((_, _), 0)) h
  · exact h.1.elim
theorem scl_ok : sclC.ok Try.prog 36 := by
  refine contract Try.func36 v36_is P4_ok 200 sclC fun args k h => ⟨args, ?_⟩
  simp only [sclC] at h
  split at h
  · rename_i x y n d
    refine ⟨by simp [leL, le], ?_⟩
    (try dsimp only [v36, P4_ct25, P4_ct37, P4_ct26, P4_ct42, ivlC, numC, timC, spanC, longE, enc2, go_sem, reduceIte])
    (try simp only [t_all, forall_const, ne_eq, implies_true, Nat.reduceAdd, Nat.reduceLeDiff, reduceCtorEq, Nat.reduceEqDiff])
    have h : k (.tup [.agg (enc2 (sclF (x, y) n d).1), .int .i64 (sclF (x, y) n d).2]) [] := h
    refine ⟨by decide, [(x, y)], ⟨⟨rfl, rfl, fun k hk => match k, hk with | 0, _ => leXL_self _⟩, by simp⟩, ?_⟩
    refine ⟨fun hc => ?_, fun hc => ?_⟩
    · rw [sclF, if_pos hc] at h
      exact ans_iv (r := errI (ivE [(x, y)])) h
    · obtain ⟨h1, h2, h3⟩ := ivE1 hc
      dsimp only at h1 h2 h3
      rw [sclF, if_neg (by rw [hc]; simp)] at h
      dsimp only at h
      have hnd := numOk_iff (x := d)
      have hnn := numOk_iff (x := n)
      have hcond : (decide (d < 1) || !numOk d || !numOk n) = true ↔ (d < 1 ∨ 4611686018427387904 < d ∨ n < -4611686018427387904 ∨ 4611686018427387904 < n) := by
        rw [Bool.or_eq_true, Bool.or_eq_true, decide_eq_true_eq, Bool.not_eq_true', Bool.not_eq_true', Bool.eq_false_iff, Bool.eq_false_iff, ne_eq, ne_eq, hnd, hnn]
        omega
      refine ⟨fun hb => ?_, fun hb => ?_⟩
      · rw [if_pos (hcond.1 hb)] at h
        exact ans_iv (r := errI 2) h
      · have hb' : ¬ (d < 1 ∨ 4611686018427387904 < d ∨ n < -4611686018427387904 ∨ 4611686018427387904 < n) := fun hh => by
          have := hcond.2 hh
          rw [hb] at this; cases this
        rw [if_neg hb'] at h
        rw [IntWalk.u64_in d (by omega)]
        refine ⟨⟨⟨by omega, by omega⟩, by omega, by omega⟩, ⟨⟨by omega, by omega⟩, by omega, by omega⟩, by decide,
          x * n, [y * n], ⟨⟨rfl, rfl, fun k hk => match k, hk with | 0, _ => leXL_self _ | 1, _ => leXL_self _⟩, by simp, ?_, by omega, by omega⟩, by decide, by decide, ans_iv h⟩
        intro p hp
        simp only [List.mem_cons, List.not_mem_nil, or_false] at hp
        rcases hp with rfl | rfl <;> exact big_mul (by omega) (by omega)
  · exact h.1.elim
end Go.Proofs.Ytijadllhfgajlaa
set_option linter.all false
namespace Go.Proofs.Ytijadllhfgajlaa
open Go Go.Vx
set_option maxRecDepth 100000
set_option maxHeartbeats 4000000
def v53 : VF := { ntmps := 34, res := [.tmp 4, .tmp 5], body :=
 (.seq (.region [u1 4 .mov [.cn (.int .u64 0)],
 u1 5 .mov [.cn (.bool false)]])
 (.seq (.region [u1 6 .mov [.cn (.int .u64 1)]])
 (.seq (.seq (.region [u1 9 .mov [.tm 0],
 u1 10 (.cmp .lss) [.tm 9, .cn (.int .u64 2)],
 u1 11 .mov [.tm 10],
 u2 12 11 true .mov [.tm 1],
 u2 13 11 true (.cmp .gtr) [.tm 12, .cn (.int .i64 0)],
 u1 14 .and [.tm 11, .tm 13]])
 (.cond (.tm 14) (.seq (.region [u1 15 .mov [.tm 0],
 u1 4 .mov [.tm 15],
 u1 5 .mov [.cn (.bool true)]])
 .ret)
  .skip))
 (.seq (.seq (.region [u1 16 .mov [.tm 1],
 u1 17 .mov [.cn (.int .i64 0)]])
 (.block 0 (.loop (.seq (.region [u1 18 (.cmp .lss) [.tm 17, .tm 16]])
 (.seq (.cond (.tm 18) .skip
  (.exit 0))
 (.seq (.block 1 (.seq (.region [u1 20 .mov [.tm 6],
 u1 21 .mov [.tm 0],
 u1 22 (.call 38) [.tm 20, .tm 21],
 u1 19 .mov [.tm 22],
 u1 23 (.ext 0) [.tm 19],
 u1 24 (.ext 1) [.tm 19],
 u1 7 .mov [.tm 23],
 u1 8 .mov [.tm 24]])
 (.seq (.seq (.region [u1 25 .mov [.tm 7],
 u1 26 (.cmp .neq) [.tm 25, .cn (.int .u64 0)],
 u1 27 .mov [.tm 26],
 u2 28 27 false .mov [.tm 8],
 u2 29 27 false (.cmp .gtr) [.tm 28, .cn (.int .u64 4611686018427387904)],
 u1 30 .or [.tm 27, .tm 29]])
 (.cond (.tm 30) (.seq (.region [u1 4 .mov [.cn (.int .u64 0)],
 u1 5 .mov [.cn (.bool false)]])
 .ret)
  .skip))
 (.region [u1 31 .mov [.tm 8],
 u1 6 .mov [.tm 31]]))))
 (.region [u1 32 (.ari .add) [.tm 17, .cn (.int .i64 1)],
 u1 17 .mov [.tm 32]])))))))
 (.seq (.region [u1 33 .mov [.tm 6],
 u1 4 .mov [.tm 33],
 u1 5 .mov [.cn (.bool true)]])
 .ret))))) }
theorem v53_is : vfunc Try.prog Try.f53 = some v53 := by kernel_rfl
def v52 : VF := { ntmps := 45, res := [.tmp 4], body :=
 (.seq (.region [u1 4 .mov [.cn (.int .u64 0)]])
 (.seq (.region [u1 10 .mov [.tm 0],
 u1 11 (.ari .add) [.tm 10, .cn (.int .u64 1)],
 u1 5 .mov [.cn (.int .u64 0)],
 u1 6 .mov [.tm 11]])
 (.seq (.seq (.region [u1 12 .mov [.tm 1],
 u1 13 (.cmp .gtr) [.tm 12, .cn (.int .i64 1)]])
 (.cond (.tm 13) (.region [u1 14 .mov [.tm 6],
 u1 15 .mov [.tm 1],
 u1 16 .quo [.cn (.int .i64 62), .tm 15],
 u1 17 (.ari .add) [.tm 16, .cn (.int .i64 1)],
 u1 18 .shl [.cn (.int .u64 1), .tm 17],
 u1 19 .min [.tm 14, .tm 18],
 u1 6 .mov [.tm 19]])
  .skip))
 (.seq (.block 0 (.loop (.seq (.seq (.region [u1 20 .mov [.tm 6],
 u1 21 .mov [.tm 5],
 u1 22 (.ari .sub) [.tm 20, .tm 21],
 u1 23 (.cmp .gtr) [.tm 22, .cn (.int .u64 1)]])
 (.cond (.tm 23) .skip
  (.exit 0)))
 (.block 1 (.seq (.region [u1 24 .mov [.tm 5],
 u1 25 .mov [.tm 6],
 u1 26 .mov [.tm 5],
 u1 27 (.ari .sub) [.tm 25, .tm 26],
 u1 28 .quo [.tm 27, .cn (.int .u64 2)],
 u1 29 (.ari .add) [.tm 24, .tm 28],
 u1 7 .mov [.tm 29]])
 (.seq (.region [u1 31 .mov [.tm 7],
 u1 32 .mov [.tm 1],
 u1 33 (.call 53) [.tm 31, .tm 32],
 u1 30 .mov [.tm 33],
 u1 34 (.ext 0) [.tm 30],
 u1 35 (.ext 1) [.tm 30],
 u1 8 .mov [.tm 34],
 u1 9 .mov [.tm 35]])
 (.seq (.region [u1 36 .mov [.tm 9],
 u1 37 .mov [.tm 36],
 u2 38 37 true .mov [.tm 8],
 u2 39 37 true .mov [.tm 0],
 u2 40 37 true (.cmp .leq) [.tm 38, .tm 39],
 u1 41 .and [.tm 37, .tm 40]])
 (.cond (.tm 41) (.region [u1 42 .mov [.tm 7],
 u1 5 .mov [.tm 42]])
  (.region [u1 43 .mov [.tm 7],
 u1 6 .mov [.tm 43]])))))))))
 (.seq (.region [u1 44 .mov [.tm 5],
 u1 4 .mov [.tm 44]])
 .ret))))) }
theorem v52_is : vfunc Try.prog Try.f52 = some v52 := by kernel_rfl
def v43 : VF := { ntmps := 58, res := [.cell 4 true 2, .tmp 5], body :=
 (.seq (.region [u1 2 .box [.tm 0],
 u1 4 (.alloc [(.int .i64 0), (.int .i64 0)]) [],
 u1 5 .mov [.cn (.int .i64 0)]])
 (.seq (.region [u1 10 (.load true 2) [.tm 2],
 u1 11 (.buildSlice 2 1 [(.int .i64 0), (.int .i64 0)] [(0, 2)]) [.tm 10],
 u1 12 (.call 25) [.tm 11],
 u1 6 .mov [.tm 12]])
 (.seq (.block 0 (.seq (.region [u1 14 .mov [.tm 6],
 u1 15 (.cmp .neq) [.tm 14, .cn (.int .i64 0)],
 u1 13 .mov [.tm 15]])
 (.cond (.tm 13) (.seq (.region [u1 16 (.build [(.int .i64 0), (.int .i64 0)] []) [],
 u1 17 .mov [.tm 6],
 u0 (.store 2) [.tm 4, .tm 16],
 u1 5 .mov [.tm 17]])
 .ret)
  (.seq (.region [u1 19 .mov [.tm 1],
 u1 20 (.cmp .lss) [.tm 19, .cn (.int .i64 1)],
 u1 21 .mov [.tm 20],
 u2 22 21 false .mov [.tm 1],
 u2 23 21 false (.cmp .gtr) [.tm 22, .cn (.int .i64 62)],
 u1 24 .or [.tm 21, .tm 23],
 u1 18 .mov [.tm 24]])
 (.cond (.tm 18) (.seq (.region [u1 25 (.build [(.int .i64 0), (.int .i64 0)] []) [],
 u0 (.store 2) [.tm 4, .tm 25],
 u1 5 .mov [.cn (.int .i64 2)]])
 .ret)
  (.seq (.region [u1 27 (.fieldAddr 0) [.tm 2],
 u1 28 (.load false 1) [.tm 27],
 u1 29 (.cmp .lss) [.tm 28, .cn (.int .i64 0)],
 u1 26 .mov [.tm 29]])
 (.cond (.tm 26) (.seq (.region [u1 30 (.build [(.int .i64 0), (.int .i64 0)] []) [],
 u0 (.store 2) [.tm 4, .tm 30],
 u1 5 .mov [.cn (.int .i64 9)]])
 .ret)
  .skip)))))))
 (.seq (.region [u1 31 (.fieldAddr 1) [.tm 2],
 u1 32 (.load false 1) [.tm 31],
 u1 33 (.conv .u64) [.tm 32],
 u1 34 .mov [.tm 1],
 u1 35 (.call 52) [.tm 33, .tm 34],
 u1 7 .mov [.tm 35]])
 (.seq (.seq (.region [u1 37 .mov [.tm 7],
 u1 38 .mov [.tm 1],
 u1 39 (.call 53) [.tm 37, .tm 38],
 u1 36 .mov [.tm 39],
 u1 40 (.ext 0) [.tm 36],
 u1 41 (.ext 1) [.tm 36],
 u1 8 .mov [.tm 40],
 u1 9 .mov [.tm 41]])
 (.seq (.region [u1 42 .mov [.tm 8],
 u1 43 (.fieldAddr 1) [.tm 2],
 u1 44 (.load false 1) [.tm 43],
 u1 45 (.conv .u64) [.tm 44],
 u1 46 (.cmp .lss) [.tm 42, .tm 45]])
 (.cond (.tm 46) (.region [u1 47 .mov [.tm 7],
 u1 48 (.ari .add) [.tm 47, .cn (.int .u64 1)],
 u1 7 .mov [.tm 48]])
  .skip)))
 (.seq (.region [u1 49 (.fieldAddr 0) [.tm 2],
 u1 50 (.load false 1) [.tm 49],
 u1 51 (.conv .u64) [.tm 50],
 u1 52 .mov [.tm 1],
 u1 53 (.call 52) [.tm 51, .tm 52],
 u1 54 (.conv .i64) [.tm 53],
 u1 55 .mov [.tm 7],
 u1 56 (.conv .i64) [.tm 55],
 u1 57 (.build [(.int .i64 0), (.int .i64 0)] [(0, 1), (1, 1)]) [.tm 54, .tm 56],
 u0 (.store 2) [.tm 4, .tm 57],
 u1 5 .mov [.cn (.int .i64 0)]])
 .ret)))))) }
theorem v43_is : vfunc Try.prog Try.f43 = some v43 := by kernel_rfl
def powP (n k : Nat) : Nat × Bool := if n ^ k ≤ 4611686018427387904 then (n ^ k, true) else (0, false)
def powpC : Ctr := { alias := false, of := fun l => match l with
  | [.int .u64 n, .int .i64 k] => .pre ((0 ≤ n ∧ n ≤ 18446744073709551615) ∧ 0 ≤ k ∧ k ≤ 1000) (.fin (.tup [.int .u64 (powP n.toNat k.toNat).1, .bool (powP n.toNat k.toNat).2]) [])
  | _ => noC }
def rootpC : Ctr := { alias := false, of := fun l => match l with
  | [.int .u64 n, .int .i64 k] => .pre ((0 ≤ n ∧ n ≤ 4611686018427387904) ∧ 1 ≤ k ∧ k ≤ 62) (.fin (.int .u64 (rootN n.toNat k.toNat)) [])
  | _ => noC }
def rootC : Ctr := { alias := false, of := fun a => match a with
  | [.agg [.int .i64 x, .int .i64 y], .int .i64 k] => .fin (.tup [.agg (enc2 (rootF (x, y) k).1), .int .i64 (rootF (x, y) k).2]) []
  | _ => noC }
def P5 : Env := { ct := fun n => match n with | 38 => some mul64C | 40 => some div64C | _ => none, fn := fun _ => none, meth := fun _ _ => none }
theorem P5_ct38 : P5.ct 38 = some mul64C := rfl
theorem P5_ok : EnvOk Try.prog P5 := by
  refine ⟨fun f c h => ?_, fun f vf h => ?_, (fun _ _ _ h => by cases h), by kernel_rfl, (fun _ h => by cases h)⟩
  · simp only [P5] at h
    split at h
    · cases h; exact ⟨mul64_ok, Try.f38, Try.func38, by kernel_rfl, by kernel_rfl⟩
    · cases h; exact ⟨div64_ok, Try.f40, Try.func40, by kernel_rfl, by kernel_rfl⟩
    · cases h
  · cases h
theorem ans_ib {k : SV → List HO → Prop} {al : Bool} {hp : List HO} {κ : IntKind} {x : Int} {b : Bool} (h : k (.tup [.int κ x, .bool b]) []) : answers al k (.tup [.int κ x, .bool b]) hp :=
  ans_le (show k _ [] from h) (le_self (.tup [.int κ x, .bool b]) ⟨trivial, trivial, trivial⟩) (fun _ => by simp [freshS, freshL])
theorem powp_ok : powpC.ok Try.prog 53 := by
  refine contract Try.func53 v53_is P5_ok 300 powpC fun args k h => ⟨args, ?_⟩
  simp only [powpC] at h
  split at h
  · rename_i n e
    obtain ⟨⟨⟨h0, h1⟩, h2, h3⟩, h⟩ := h
    obtain ⟨n, rfl⟩ := Int.eq_ofNat_of_zero_le h0
    obtain ⟨e, rfl⟩ := Int.eq_ofNat_of_zero_le h2
    refine ⟨by simp [leL, le], ?_⟩
    (try dsimp only [v53, go_sem, reduceIte])
    (try simp only [t_all, forall_const, ne_eq, implies_true, Nat.reduceAdd, Nat.reduceLeDiff, reduceCtorEq, Nat.reduceEqDiff])
    have h : k (.tup [.int .u64 (powP n e).1, .bool (powP n e).2]) [] := h
    refine ⟨fun hc => ?_, fun hc => ?_⟩
    · rw [Bool.and_eq_true, decide_eq_true_eq, decide_eq_true_eq] at hc
      have : n ^ e = n := by
        rcases (by omega : n = 0 ∨ n = 1) with rfl | rfl
        · exact Nat.zero_pow (by omega)
        · exact Nat.one_pow _
      rw [powP, this, if_pos (by omega)] at h
      exact ans_ib h
    · rw [Bool.and_eq_false_iff, decide_eq_false_iff_not, decide_eq_false_iff_not] at hc
      refine Loop.keep [0, 15] Nat (fun i => [(6, .int .u64 ((n ^ i : Nat) : Int)), (17, .int .i64 i)]) (fun _ => []) [] (fun i => i ≤ e ∧ n ^ i ≤ 4611686018427387904) (fun i => e - i) ?_ ?_
      · refine ⟨0, ⟨Nat.zero_le _, by simp⟩, ?_⟩
        (try dsimp only [go_sem, reduceIte])
        simp only [fin_all, imp_self, implies_true, true_and, and_true] <;> simp
      · rintro i ⟨hi, hp⟩
        (try dsimp only [P5_ct38, mul64C, go_sem, reduceIte])
        (try simp only [t_all, forall_const, ne_eq, implies_true, Nat.reduceAdd, Nat.reduceLeDiff, reduceCtorEq, Nat.reduceEqDiff])
        have e0 : ((n ^ i : Nat) : Int) * (n : Int) = ((n ^ (i + 1) : Nat) : Int) := by rw [Nat.pow_succ]; exact (Int.natCast_mul _ _).symm
        rw [e0]
        refine ⟨fun hlt => ⟨⟨⟨by omega, by omega⟩, by omega, by omega⟩, by decide, by decide, fun hb => ?_, fun hb => ⟨i + 1, ⟨by omega, ?_⟩, by omega, ?_⟩⟩, fun hge => ?_⟩
        · have hbig : 4611686018427387904 < n ^ (i + 1) := by
            rw [Bool.or_eq_true, Bool.not_eq_true', decide_eq_false_iff_not, decide_eq_true_eq] at hb
            generalize n ^ (i + 1) = t at *
            omega
          have hle : n ^ (i + 1) ≤ n ^ e := Nat.pow_le_pow_right (by omega) (by omega)
          rw [powP, if_neg (by omega)] at h
          exact ans_ib h
        · rw [Bool.or_eq_false_iff, Bool.not_eq_false', decide_eq_true_eq, decide_eq_false_iff_not] at hb
          generalize n ^ (i + 1) = t at *
          omega
        · have hm : ((n ^ (i + 1) : Nat) : Int) % 18446744073709551616 = ((n ^ (i + 1) : Nat) : Int) := by
            rw [Bool.or_eq_false_iff, Bool.not_eq_false', decide_eq_true_eq, decide_eq_false_iff_not] at hb
            generalize n ^ (i + 1) = t at *
            omega
          rw [hm, w_succ (n := e) (by omega) (by omega)]
          simp only [fin_all, imp_self, implies_true, true_and, and_true] <;> simp
        · obtain rfl : i = e := by omega
          rw [powP, if_pos hp] at h
          exact ans_ib h
  · exact h.1.elim
def P6 : Env := { ct := fun n => match n with | 38 => some mul64C | 40 => some div64C | 53 => some powpC | 39 => some sizC | 25 => some ivlC | _ => none, fn := fun _ => none, meth := fun _ _ => none }
theorem P6_ct53 : P6.ct 53 = some powpC := rfl
theorem P6_ok : EnvOk Try.prog P6 := by
  refine ⟨fun f c h => ?_, fun f vf h => ?_, (fun _ _ _ h => by cases h), by kernel_rfl, (fun _ h => by cases h)⟩
  · simp only [P6] at h
    split at h
    · cases h; exact ⟨mul64_ok, Try.f38, Try.func38, by kernel_rfl, by kernel_rfl⟩
    · cases h; exact ⟨div64_ok, Try.f40, Try.func40, by kernel_rfl, by kernel_rfl⟩
    · cases h; exact ⟨powp_ok, Try.f53, Try.func53, by kernel_rfl, by kernel_rfl⟩
    · cases h; exact ⟨siz_ok, Try.f39, Try.func39, by kernel_rfl, by kernel_rfl⟩
    · cases h; exact ⟨ivl_ok, Try.f25, Try.func25, by kernel_rfl, by kernel_rfl⟩
    · cases h
  · cases h
theorem rootp_ok : rootpC.ok Try.prog 52 := by
  refine contract Try.func52 v52_is P6_ok 300 rootpC fun args k h => ⟨args, ?_⟩
  simp only [rootpC] at h
  split at h
  · rename_i n e
    obtain ⟨⟨⟨h0, h1⟩, h2, h3⟩, h⟩ := h
    obtain ⟨n, rfl⟩ := Int.eq_ofNat_of_zero_le h0
    obtain ⟨e, rfl⟩ := Int.eq_ofNat_of_zero_le (by omega : 0 ≤ e)
    refine ⟨by simp [leL, le], ?_⟩
    (try dsimp only [v52, go_sem, reduceIte])
    (try simp only [t_all, forall_const, ne_eq, implies_true, Nat.reduceAdd, Nat.reduceLeDiff, reduceCtorEq, Nat.reduceEqDiff])
    have h : k (.int .u64 (rootN n e)) [] := h
    have e1 : IntKind.i64.wrap (IntKind.i64.wrap (Int.tdiv 62 (e : Int)) + 1) = ((62 / e + 1 : Nat) : Int) := by
      have : Int.tdiv 62 (e : Int) = ((62 / e : Nat) : Int) := IntWalk.up_tdiv (x := 62) rfl rfl
      have hle : 62 / e ≤ 62 := Nat.div_le_self _ _
      generalize 62 / e = t at *
      rw [this, IntWalk.i64_in (t : Int) (by omega), IntWalk.i64_in _ (by omega)]; omega
    have e2 : IntKind.u64.wrap ((n : Int) + 1) = ((n + 1 : Nat) : Int) := by rw [IntWalk.u64_in _ (by omega)]; omega
    refine ⟨fun hgt => ⟨by omega, ?_⟩, fun hle => ?_⟩
    · have hq : 62 / e ≤ 31 := by
        have : 62 / e ≤ 62 / 2 := Nat.div_le_div_left (by omega) (by decide)
        omega
      have e3 : IntKind.u64.wrap (1 * 2 ^ min (62 / e + 1) 64) = ((2 ^ (62 / e + 1) : Nat) : Int) := by
        have h1 := shl_nat (x := 1) (s := 62 / e + 1) (by omega) (by
          rw [Nat.one_mul]
          exact Nat.lt_of_le_of_lt (Nat.pow_le_pow_right (by decide) (by omega : 62 / e + 1 ≤ 32)) (by decide))
        rw [Nat.one_mul] at h1
        exact h1
      rw [e1, e2]
      simp only [Int.toNat_natCast]
      rw [e3]
      refine ⟨Int.natCast_nonneg _, ?_⟩
      have hhigh : n < (min (n + 1) (2 ^ (62 / e + 1))) ^ e := by
        rcases Nat.le_total (n + 1) (2 ^ (62 / e + 1)) with hm | hm
        · rw [Nat.min_eq_left hm]
          exact Nat.lt_of_lt_of_le (Nat.lt_succ_self n) (Nat.le_trans (Nat.le_of_eq (Nat.pow_one _).symm) (Nat.pow_le_pow_right (by omega) (by omega)))
        · rw [Nat.min_eq_right hm, ← Nat.pow_mul]
          have h63 : 63 ≤ (62 / e + 1) * e := by
            have := Nat.div_add_mod 62 e
            have := Nat.mod_lt 62 (by omega : e > 0)
            rw [Nat.succ_mul, Nat.mul_comm]; omega
          exact Nat.lt_of_lt_of_le (by omega : n < 2 ^ 63) (Nat.pow_le_pow_right (by decide) h63)
      have hm : min ((n + 1 : Nat) : Int) ((2 ^ (62 / e + 1) : Nat) : Int) = ((min (n + 1) (2 ^ (62 / e + 1)) : Nat) : Int) := by omega
      rw [hm]
      have hmb : min (n + 1) (2 ^ (62 / e + 1)) ≤ n + 1 := Nat.min_le_left _ _
      generalize min (n + 1) (2 ^ (62 / e + 1)) = H at hhigh hmb ⊢
      refine Loop.keep [0, 0] (Nat × Nat) (fun x => [(5, .int .u64 x.1), (6, .int .u64 x.2)]) (fun _ => []) [] (fun x => x.1 ^ e ≤ n ∧ n < x.2 ^ e ∧ x.1 < x.2 ∧ x.2 ≤ n + 1) (fun x => x.2 - x.1) ?_ ?_
      · refine ⟨(0, H), ⟨by rw [Nat.zero_pow (by omega)]; exact Nat.zero_le _, hhigh, ?_, by omega⟩, ?_⟩
        · refine Nat.pos_of_ne_zero fun h0 => ?_
          have h0 : H = 0 := h0
          rw [h0, Nat.zero_pow (by omega)] at hhigh
          exact absurd hhigh (Nat.not_lt_zero _)
        · (try dsimp only [go_sem, reduceIte])
          simp only [fin_all, imp_self, implies_true, true_and, and_true] <;> simp
      · rintro ⟨l, u⟩ ⟨hl, hu, hlu, hun⟩
        dsimp only at hl hu hlu hun
        (try dsimp only [P6_ct53, powpC, go_sem, reduceIte])
        (try simp only [t_all, forall_const, ne_eq, implies_true, Nat.reduceAdd, Nat.reduceLeDiff, reduceCtorEq, Nat.reduceEqDiff])
        have w1 : IntKind.u64.wrap ((u : Int) - (l : Int)) = ((u - l : Nat) : Int) := u_sub (by omega) (by omega)
        have w2 : IntKind.u64.wrap (((u - l : Nat) : Int).tdiv 2) = (((u - l) / 2 : Nat) : Int) := by
          have : ((u - l : Nat) : Int).tdiv 2 = (((u - l) / 2 : Nat) : Int) := IntWalk.up_tdiv (y := 2) rfl rfl
          rw [this]; exact u_nat (by omega)
        have w3 : IntKind.u64.wrap ((l : Int) + (((u - l) / 2 : Nat) : Int)) = ((l + (u - l) / 2 : Nat) : Int) := u_add (by omega)
        rw [w1, w2, w3]
        simp only [Int.toNat_natCast]
        refine ⟨fun hgt => ⟨by decide, ⟨⟨by omega, by omega⟩, by omega, by omega⟩, by decide, by decide, ?_⟩, fun hle => ?_⟩
        · generalize hM : l + (u - l) / 2 = M
          have hM1 : l < M := by omega
          have hM2 : M < u := by omega
          have hcond : ((powP M e).2 && decide (((powP M e).1 : Int) ≤ (n : Int))) = true ↔ M ^ e ≤ n := by
            unfold powP
            split
            · simp only [Bool.true_and, decide_eq_true_eq]
              generalize M ^ e = t
              omega
            · simp only [Bool.false_and, Bool.false_eq_true, false_iff]
              generalize M ^ e = t at *
              omega
          refine ⟨fun hb => ⟨(M, u), ⟨hcond.1 hb, hu, hM2, hun⟩, by simp only; omega, ?_⟩, fun hb => ⟨(l, M), ⟨hl, ?_, hM1, by simp only; omega⟩, by simp only; omega, ?_⟩⟩
          · simp only [fin_all, imp_self, implies_true, true_and, and_true]
          · refine Nat.lt_of_not_le fun hh => ?_
            have := hcond.2 hh
            rw [hb] at this; cases this
          · simp only [fin_all, imp_self, implies_true, true_and, and_true]
        · obtain rfl : u = l + 1 := by omega
          rw [rootN_eq (by omega) hl hu] at h
          exact ans_int h
    · have hhigh : n < (n + 1) ^ e := Nat.lt_of_lt_of_le (Nat.lt_succ_self n) (Nat.le_trans (Nat.le_of_eq (Nat.pow_one _).symm) (Nat.pow_le_pow_right (by omega) (by omega)))
      rw [e2]
      have hmb : n + 1 ≤ n + 1 := Nat.le_refl _
      generalize hH : n + 1 = H at hhigh ⊢
      rw [hH] at hmb
      refine Loop.keep [0, 0] (Nat × Nat) (fun x => [(5, .int .u64 x.1), (6, .int .u64 x.2)]) (fun _ => []) [] (fun x => x.1 ^ e ≤ n ∧ n < x.2 ^ e ∧ x.1 < x.2 ∧ x.2 ≤ n + 1) (fun x => x.2 - x.1) ?_ ?_
      · refine ⟨(0, H), ⟨by rw [Nat.zero_pow (by omega)]; exact Nat.zero_le _, hhigh, ?_, by omega⟩, ?_⟩
        · refine Nat.pos_of_ne_zero fun h0 => ?_
          have h0 : H = 0 := h0
          rw [h0, Nat.zero_pow (by omega)] at hhigh
          exact absurd hhigh (Nat.not_lt_zero _)
        · (try dsimp only [go_sem, reduceIte])
          simp only [fin_all, imp_self, implies_true, true_and, and_true] <;> simp
      · rintro ⟨l, u⟩ ⟨hl, hu, hlu, hun⟩
        dsimp only at hl hu hlu hun
        (try dsimp only [P6_ct53, powpC, go_sem, reduceIte])
        (try simp only [t_all, forall_const, ne_eq, implies_true, Nat.reduceAdd, Nat.reduceLeDiff, reduceCtorEq, Nat.reduceEqDiff])
        have w1 : IntKind.u64.wrap ((u : Int) - (l : Int)) = ((u - l : Nat) : Int) := u_sub (by omega) (by omega)
        have w2 : IntKind.u64.wrap (((u - l : Nat) : Int).tdiv 2) = (((u - l) / 2 : Nat) : Int) := by
          have : ((u - l : Nat) : Int).tdiv 2 = (((u - l) / 2 : Nat) : Int) := IntWalk.up_tdiv (y := 2) rfl rfl
          rw [this]; exact u_nat (by omega)
        have w3 : IntKind.u64.wrap ((l : Int) + (((u - l) / 2 : Nat) : Int)) = ((l + (u - l) / 2 : Nat) : Int) := u_add (by omega)
        rw [w1, w2, w3]
        simp only [Int.toNat_natCast]
        refine ⟨fun hgt => ⟨by decide, ⟨⟨by omega, by omega⟩, by omega, by omega⟩, by decide, by decide, ?_⟩, fun hle => ?_⟩
        · generalize hM : l + (u - l) / 2 = M
          have hM1 : l < M := by omega
          have hM2 : M < u := by omega
          have hcond : ((powP M e).2 && decide (((powP M e).1 : Int) ≤ (n : Int))) = true ↔ M ^ e ≤ n := by
            unfold powP
            split
            · simp only [Bool.true_and, decide_eq_true_eq]
              generalize M ^ e = t
              omega
            · simp only [Bool.false_and, Bool.false_eq_true, false_iff]
              generalize M ^ e = t at *
              omega
          refine ⟨fun hb => ⟨(M, u), ⟨hcond.1 hb, hu, hM2, hun⟩, by simp only; omega, ?_⟩, fun hb => ⟨(l, M), ⟨hl, ?_, hM1, by simp only; omega⟩, by simp only; omega, ?_⟩⟩
          · simp only [fin_all, imp_self, implies_true, true_and, and_true]
          · refine Nat.lt_of_not_le fun hh => ?_
            have := hcond.2 hh
            rw [hb] at this; cases this
          · simp only [fin_all, imp_self, implies_true, true_and, and_true]
        · obtain rfl : u = l + 1 := by omega
          rw [rootN_eq (by omega) hl hu] at h
          exact ans_int h
  · exact h.1.elim
def P7 : Env := { ct := fun n => match n with | 53 => some powpC | 52 => some rootpC | 25 => some ivlC | _ => none, fn := fun _ => none, meth := fun _ _ => none }
theorem P7_ct53 : P7.ct 53 = some powpC := rfl
theorem P7_ct52 : P7.ct 52 = some rootpC := rfl
theorem P7_ct25 : P7.ct 25 = some ivlC := rfl
theorem P7_ok : EnvOk Try.prog P7 := by
  refine ⟨fun f c h => ?_, fun f vf h => ?_, (fun _ _ _ h => by cases h), by kernel_rfl, (fun _ h => by cases h)⟩
  · simp only [P7] at h
    split at h
    · cases h; exact ⟨powp_ok, Try.f53, Try.func53, by kernel_rfl, by kernel_rfl⟩
    · cases h; exact ⟨rootp_ok, Try.f52, Try.func52, by kernel_rfl, by kernel_rfl⟩
    · cases h; exact ⟨ivl_ok, Try.f25, Try.func25, by kernel_rfl, by kernel_rfl⟩
    · cases h
  · cases h
theorem rootN_le {n k : Nat} (hk : 0 < k) : rootN n k ≤ n := by
  have h := (rootN_spec (n := n) hk).1
  generalize rootN n k = r at *
  cases r with
  | zero => exact Nat.zero_le _
  | succ r => exact Nat.le_trans (Nat.le_trans (Nat.le_of_eq (Nat.pow_one _).symm) (Nat.pow_le_pow_right (by omega) hk)) h
theorem root_ok : rootC.ok Try.prog 43 := by
  refine contract Try.func43 v43_is P7_ok 300 rootC fun args k h => ⟨args, ?_⟩
  simp only [rootC] at h
  split at h
  · rename_i x y e
    refine ⟨by simp [leL, le], ?_⟩
    (try dsimp only [v43, P7_ct25, P7_ct53, P7_ct52, ivlC, powpC, rootpC, enc2, go_sem, reduceIte])
    (try simp only [t_all, forall_const, ne_eq, implies_true, Nat.reduceAdd, Nat.reduceLeDiff, reduceCtorEq, Nat.reduceEqDiff])
    have h : k (.tup [.agg (enc2 (rootF (x, y) e).1), .int .i64 (rootF (x, y) e).2]) [] := h
    refine ⟨by decide, [(x, y)], ⟨⟨rfl, rfl, fun k hk => match k, hk with | 0, _ => leXL_self _⟩, by simp⟩, fun hc => ?_, fun hc => ?_⟩
    · rw [rootF, if_pos hc] at h
      exact ans_iv (r := errI (ivE [(x, y)])) h
    · obtain ⟨h1, h2, h3⟩ := ivE1 hc
      dsimp only at h1 h2 h3
      rw [rootF, if_neg (by rw [hc]; simp)] at h
      dsimp only at h
      refine ⟨fun hb => ?_, fun hb => ⟨fun hx => ?_, fun hx => ?_⟩⟩
      · rw [Bool.or_eq_true, decide_eq_true_eq, decide_eq_true_eq] at hb
        rw [if_pos hb] at h
        exact ans_iv (r := errI 2) h
      · rw [Bool.or_eq_false_iff, decide_eq_false_iff_not, decide_eq_false_iff_not] at hb
        rw [if_neg (by omega), if_pos hx] at h
        exact ans_iv (r := errI 9) h
      · rw [Bool.or_eq_false_iff, decide_eq_false_iff_not, decide_eq_false_iff_not] at hb
        rw [if_neg (by omega), if_neg hx] at h
        obtain ⟨x, rfl⟩ := Int.eq_ofNat_of_zero_le (by omega : 0 ≤ x)
        obtain ⟨y, rfl⟩ := Int.eq_ofNat_of_zero_le (by omega : 0 ≤ y)
        obtain ⟨e, rfl⟩ := Int.eq_ofNat_of_zero_le (by omega : 0 ≤ e)
        rw [IntWalk.u64_in (x : Int) (by omega), IntWalk.u64_in (y : Int) (by omega)]
        simp only [Int.toNat_natCast] at h ⊢
        have sx := rootN_spec (n := x) (k := e) (by omega)
        have sy := rootN_spec (n := y) (k := e) (by omega)
        have lx := rootN_le (n := x) (k := e) (by omega)
        have ly := rootN_le (n := y) (k := e) (by omega)
        have hp : powP (rootN y e) e = (rootN y e ^ e, true) := by unfold powP; rw [if_pos (by omega)]
        rw [hp]
        unfold rootUp at h
        generalize rootN x e = rx at *
        generalize rootN y e = ry at *
        rw [IntWalk.i64_in (rx : Int) (by omega), IntWalk.i64_in (ry : Int) (by omega), IntWalk.u64_in ((ry : Int) + 1) (by omega), IntWalk.i64_in ((ry : Int) + 1) (by omega)]
        refine ⟨⟨⟨by omega, by omega⟩, by omega, by omega⟩, ⟨⟨by omega, by omega⟩, by omega, by omega⟩, by decide, by decide, fun hc => ⟨⟨⟨by omega, by omega⟩, by omega, by omega⟩, ?_⟩, fun hc => ⟨⟨⟨by omega, by omega⟩, by omega, by omega⟩, ?_⟩⟩
        · rw [if_pos (by omega)] at h
          exact ans_iv (r := ((_, _), 0)) h
        · rw [if_neg (by omega)] at h
          exact ans_iv (r := ((_, _), 0)) h
  · exact h.1.elim
end Go.Proofs.Ytijadllhfgajlaa
set_option linter.all false
namespace Go.Proofs.Ytijadllhfgajlaa
open Go Go.Vx
set_option maxRecDepth 100000
set_option maxHeartbeats 4000000
def v20 : VF := { ntmps := 59, res := [.tmp 2], body :=
 (.seq (.region [u1 1 .box [.tm 0],
 u1 2 .mov [.cn (.int .i64 0)]])
 (.seq (.region [u1 4 (.fieldAddr 2) [.tm 1],
 u1 5 (.load false 1) [.tm 4],
 u1 6 (.fieldAddr 1) [.tm 1],
 u1 7 (.load false 1) [.tm 6],
 u1 8 (.cmp .eql) [.tm 5, .tm 7],
 u1 9 (.fieldAddr 2) [.tm 1],
 u1 10 (.load false 1) [.tm 9],
 u1 11 (.fieldAddr 1) [.tm 1],
 u1 12 (.load false 1) [.tm 11],
 u1 13 (.cmp .eql) [.tm 10, .tm 12],
 u1 14 (.fieldAddr 2) [.tm 1],
 u1 15 (.load false 1) [.tm 14],
 u1 16 (.fieldAddr 1) [.tm 1],
 u1 17 (.load false 1) [.tm 16],
 u1 18 (.cmp .lss) [.tm 15, .tm 17],
 u1 19 (.build [(.bool false), (.bool false), (.bool false), (.bool false)] [(1, 1), (2, 1), (3, 1)]) [.tm 8, .tm 13, .tm 18],
 u1 3 (.allocArr 4 1 [(.bool false), (.bool false), (.bool false), (.bool false)]) [],
 u0 (.store 4) [.tm 3, .tm 19]])
 (.seq (.seq (.region [u1 20 (.fieldAddr 0) [.tm 1],
 u1 21 (.load false 1) [.tm 20],
 u1 22 (.call 29) [.tm 21, .cn (.int .i64 1), .cn (.int .i64 3)],
 u1 23 .not [.tm 22],
 u1 24 .mov [.tm 23],
 u2 25 24 false (.fieldAddr 0) [.tm 1],
 u2 26 24 false (.load false 1) [.tm 25],
 u2 27 24 false (.idxArr 4 1) [.tm 3, .tm 26],
 u2 28 24 false (.load false 1) [.tm 27],
 u2 29 24 false .not [.tm 28],
 u1 30 .or [.tm 24, .tm 29]])
 (.cond (.tm 30) (.seq (.region [u1 2 .mov [.cn (.int .i64 2)]])
 .ret)
  .skip))
 (.seq (.seq (.region [u1 31 (.fieldAddr 1) [.tm 1],
 u1 32 (.load false 1) [.tm 31],
 u1 33 (.call 29) [.tm 32, .cn (.int .i64 1000), .cn (.int .i64 500000)],
 u1 34 .not [.tm 33],
 u1 35 .mov [.tm 34],
 u2 36 35 false (.fieldAddr 2) [.tm 1],
 u2 37 35 false (.load false 1) [.tm 36],
 u2 38 35 false (.call 29) [.tm 37, .cn (.int .i64 1000), .cn (.int .i64 500000)],
 u2 39 35 false .not [.tm 38],
 u1 40 .or [.tm 35, .tm 39],
 u1 41 .mov [.tm 40],
 u2 42 41 false (.fieldAddr 3) [.tm 1],
 u2 43 41 false (.load false 1) [.tm 42],
 u2 44 41 false (.fieldAddr 1) [.tm 1],
 u2 45 41 false (.load false 1) [.tm 44],
 u2 46 41 false (.ari .mul) [.cn (.int .i64 4), .tm 45],
 u2 47 41 false (.call 29) [.tm 43, .cn (.int .i64 1), .tm 46],
 u2 48 41 false .not [.tm 47],
 u1 49 .or [.tm 41, .tm 48],
 u1 50 .mov [.tm 49],
 u2 51 50 false (.fieldAddr 4) [.tm 1],
 u2 52 50 false (.load false 1) [.tm 51],
 u2 53 50 false (.fieldAddr 1) [.tm 1],
 u2 54 50 false (.load false 1) [.tm 53],
 u2 55 50 false (.ari .mul) [.cn (.int .i64 4), .tm 54],
 u2 56 50 false (.call 29) [.tm 52, .cn (.int .i64 1), .tm 55],
 u2 57 50 false .not [.tm 56],
 u1 58 .or [.tm 50, .tm 57]])
 (.cond (.tm 58) (.seq (.region [u1 2 .mov [.cn (.int .i64 2)]])
 .ret)
  .skip))
 (.seq (.region [u1 2 .mov [.cn (.int .i64 0)]])
 .ret))))) }
theorem v20_is : vfunc Try.prog Try.f20 = some v20 := by kernel_rfl
def v29 : VF := { ntmps := 15, res := [.tmp 6], body :=
 (.seq (.region [u1 6 .mov [.cn (.bool false)]])
 (.seq (.region [u1 7 .mov [.tm 0],
 u1 8 .mov [.tm 1],
 u1 9 (.cmp .geq) [.tm 7, .tm 8],
 u1 10 .mov [.tm 9],
 u2 11 10 true .mov [.tm 0],
 u2 12 10 true .mov [.tm 2],
 u2 13 10 true (.cmp .leq) [.tm 11, .tm 12],
 u1 14 .and [.tm 10, .tm 13],
 u1 6 .mov [.tm 14]])
 .ret)) }
theorem v29_is : vfunc Try.prog Try.f29 = some v29 := by kernel_rfl
def chkBC : Ctr := { alias := false, of := fun l => match l with
  | [.agg [.int .i64 a, .int .i64 b, .int .i64 c, .int .i64 d, .int .i64 e]] => .fin (.int .i64 (chkB ⟨a, b, c, d, e⟩)) []
  | _ => noC }
def inC : Ctr := { alias := false, of := fun l => match l with
  | [.int .i64 n, .int .i64 a, .int .i64 b] => .fin (.bool (inF n a b)) []
  | _ => .pre False (.fin (.bool false) []) }
def L00 : Env := { ct := fun _ => none, fn := fun _ => none, meth := fun _ _ => none }
theorem L00_ok : EnvOk Try.prog L00 := by
  refine ⟨fun f c h => ?_, fun f vf h => ?_, (fun _ _ _ h => by cases h), by kernel_rfl, (fun _ h => by cases h)⟩
  · cases h
  · cases h
theorem in_c : inC.ok Try.prog 29 := by
  refine contract Try.func29 v29_is L00_ok 100 inC fun args k h => ?_
  simp only [inC] at h
  split at h
  · rename_i n a b
    refine ⟨[.int .i64 n, .int .i64 a, .int .i64 b], by simp [leL, le], ?_⟩
    dsimp only [v29, go_sem, reduceIte]
    simp only [t_all, forall_const, ne_eq, implies_true, Nat.reduceAdd, Nat.reduceLeDiff, reduceCtorEq, Nat.reduceEqDiff]
    exact ans_bool h
  · exact h.1.elim
def L0 : Env := { ct := fun n => match n with | 29 => some inC | _ => none, fn := fun _ => none, meth := fun _ _ => none }
theorem L0_ct29 : L0.ct 29 = some inC := rfl
theorem L0_ok : EnvOk Try.prog L0 := by
  refine ⟨fun f c h => ?_, fun f vf h => ?_, (fun _ _ _ h => by cases h), by kernel_rfl, (fun _ h => by cases h)⟩
  · simp only [L0] at h
    split at h
    · cases h; exact ⟨in_c, Try.f29, Try.func29, by kernel_rfl, by kernel_rfl⟩
    · cases h
  · cases h
theorem chkB_c : chkBC.ok Try.prog 20 := by
  refine contract Try.func20 v20_is L0_ok 300 chkBC fun args k h => ?_
  simp only [chkBC] at h
  split at h
  · rename_i a b c d e
    refine ⟨[.agg [.int .i64 a, .int .i64 b, .int .i64 c, .int .i64 d, .int .i64 e]], by simp [leL, le], ?_⟩
    by_cases h1 : a = 1
    · subst h1
      have hin : inF 1 1 3 = true := by decide
      have hsh : shapeF ⟨1, b, c, d, e⟩ = decide (c = b) := rfl
      dsimp only [v20, L0_ct29, inC, Int.reduceToNat, Nat.reduceMul, Int.toNat_zero, Int.toNat_one, go_sem, reduceIte]
      simp only [t_all, forall_const, ne_eq, implies_true, Nat.reduceAdd, Nat.reduceLeDiff, reduceCtorEq, Nat.reduceEqDiff]
      simp only [chkB, hin, hsh, Bool.true_and] at h
      refine ⟨by decide, by decide, by decide, fun hc => ?_, fun hc => ?_⟩
      · rw [hin, Bool.not_true, Bool.false_or, Bool.not_eq_true'] at hc
        rw [hc, if_neg (by decide)] at h
        exact ans_int h
      · rw [hin, Bool.not_true, Bool.false_or, Bool.not_eq_false'] at hc
        rw [hc, if_pos rfl] at h
        refine ⟨fun hd => ?_, fun hd => ?_⟩
        · rw [if_neg (fun hh => by
            simp only [Bool.and_eq_true] at hh
            rw [hh.1.1.1, hh.1.1.2, hh.1.2, hh.2] at hd
            cases hd)] at h
          exact ans_int h
        · simp only [Bool.or_eq_false_iff, Bool.not_eq_false'] at hd
          rw [if_pos (by simp only [Bool.and_eq_true]; exact hd)] at h
          exact ans_int h
    by_cases h2 : a = 2
    · subst h2
      have hin : inF 2 1 3 = true := by decide
      have hsh : shapeF ⟨2, b, c, d, e⟩ = decide (c = b) := rfl
      dsimp only [v20, L0_ct29, inC, Int.reduceToNat, Nat.reduceMul, Int.toNat_zero, Int.toNat_one, go_sem, reduceIte]
      simp only [t_all, forall_const, ne_eq, implies_true, Nat.reduceAdd, Nat.reduceLeDiff, reduceCtorEq, Nat.reduceEqDiff]
      simp only [chkB, hin, hsh, Bool.true_and] at h
      refine ⟨by decide, by decide, by decide, fun hc => ?_, fun hc => ?_⟩
      · rw [hin, Bool.not_true, Bool.false_or, Bool.not_eq_true'] at hc
        rw [hc, if_neg (by decide)] at h
        exact ans_int h
      · rw [hin, Bool.not_true, Bool.false_or, Bool.not_eq_false'] at hc
        rw [hc, if_pos rfl] at h
        refine ⟨fun hd => ?_, fun hd => ?_⟩
        · rw [if_neg (fun hh => by
            simp only [Bool.and_eq_true] at hh
            rw [hh.1.1.1, hh.1.1.2, hh.1.2, hh.2] at hd
            cases hd)] at h
          exact ans_int h
        · simp only [Bool.or_eq_false_iff, Bool.not_eq_false'] at hd
          rw [if_pos (by simp only [Bool.and_eq_true]; exact hd)] at h
          exact ans_int h
    by_cases h3 : a = 3
    · subst h3
      have hin : inF 3 1 3 = true := by decide
      have hsh : shapeF ⟨3, b, c, d, e⟩ = decide (c < b) := rfl
      dsimp only [v20, L0_ct29, inC, Int.reduceToNat, Nat.reduceMul, Int.toNat_zero, Int.toNat_one, go_sem, reduceIte]
      simp only [t_all, forall_const, ne_eq, implies_true, Nat.reduceAdd, Nat.reduceLeDiff, reduceCtorEq, Nat.reduceEqDiff]
      simp only [chkB, hin, hsh, Bool.true_and] at h
      refine ⟨by decide, by decide, by decide, fun hc => ?_, fun hc => ?_⟩
      · rw [hin, Bool.not_true, Bool.false_or, Bool.not_eq_true'] at hc
        rw [hc, if_neg (by decide)] at h
        exact ans_int h
      · rw [hin, Bool.not_true, Bool.false_or, Bool.not_eq_false'] at hc
        rw [hc, if_pos rfl] at h
        refine ⟨fun hd => ?_, fun hd => ?_⟩
        · rw [if_neg (fun hh => by
            simp only [Bool.and_eq_true] at hh
            rw [hh.1.1.1, hh.1.1.2, hh.1.2, hh.2] at hd
            cases hd)] at h
          exact ans_int h
        · simp only [Bool.or_eq_false_iff, Bool.not_eq_false'] at hd
          rw [if_pos (by simp only [Bool.and_eq_true]; exact hd)] at h
          exact ans_int h
    have hin : inF a 1 3 = false := by
      unfold inF
      rw [Bool.and_eq_false_iff, decide_eq_false_iff_not, decide_eq_false_iff_not]
      omega
    dsimp only [v20, L0_ct29, inC, go_sem, reduceIte]
    simp only [t_all, forall_const, ne_eq, implies_true, Nat.reduceAdd, Nat.reduceLeDiff, reduceCtorEq, Nat.reduceEqDiff]
    rw [hin]
    have hch : chkB ⟨a, b, c, d, e⟩ = 2 := by
      rw [chkB, if_neg (by simp [hin])]
    rw [hch] at h
    by_cases h4 : a ≤ 0
    · rw [show a.toNat = 0 by omega]
      dsimp only [Nat.reduceMul, L0_ct29, inC, go_sem, reduceIte]
      simp only [t_all, forall_const, ne_eq, implies_true, Nat.reduceAdd, Nat.reduceLeDiff, reduceCtorEq, Nat.reduceEqDiff]
      refine ⟨by decide, fun _ => ans_int h, fun hh => by cases hh⟩
    · obtain ⟨m, hm⟩ : ∃ m, a.toNat = m + 4 := ⟨a.toNat - 4, by omega⟩
      rw [hm, Nat.mul_one]
      have hdn : dropL m [] = [] := by cases m <;> rfl
      dsimp only [go_sem, reduceIte]
      rw [hdn]
      dsimp only [L0_ct29, inC, go_sem, reduceIte]
      simp only [t_all, forall_const, ne_eq, implies_true, Nat.reduceAdd, Nat.reduceLeDiff, reduceCtorEq, Nat.reduceEqDiff]
      refine ⟨by decide, .bool false, ?_⟩
      dsimp only [L0_ct29, inC, go_sem, reduceIte]
      simp only [t_all, forall_const, ne_eq, implies_true, Nat.reduceAdd, Nat.reduceLeDiff, reduceCtorEq, Nat.reduceEqDiff]
      exact ⟨fun _ => ans_int h, fun hh => by cases hh⟩
  · exact h.1.elim
end Go.Proofs.Ytijadllhfgajlaa
set_option linter.all false
namespace Go.Proofs.Ytijadllhfgajlaa
open Go Go.Vx
set_option maxRecDepth 100000
set_option maxHeartbeats 4000000
def v33 : VF := { ntmps := 8, res := [.tmp 2], body :=
 (.seq (.region [u1 2 .mov [.cn (.val (.pointer none))]])
 (.seq (.region [u1 3 .mov [.tm 0],
 u1 4 .mov [.tm 0],
 u1 5 (.build [(.int .i64 0), (.int .i64 0)] [(0, 1), (1, 1)]) [.tm 3, .tm 4],
 u1 6 (.build [(.int .i64 0), (.int .i64 0), (.int .i64 0)] [(0, 2)]) [.tm 5],
 u1 7 .box [.tm 6],
 u1 2 .mov [.tm 7]])
 .ret)) }
theorem v33_is : vfunc Try.prog Try.f33 = some v33 := by kernel_rfl
def v13 : VF := { ntmps := 29, res := [.tmp 6], body :=
 (.seq (.region [u1 5 .box [.tm 2],
 u1 6 .mov [.cn (.val (.pointer none))]])
 (.seq (.draw [(7, .box [(.int .i64 0), (.int .i64 0)])] [w1 10 .mov [.tm 1],
 w1 11 .mov [.tm 0],
 w1 12 .nilCheck [.tm 11],
 w1 13 (.fieldAddr 0) [.tm 12],
 w1 14 (.load true 2) [.tm 13],
 w1 15 (.load true 2) [.tm 5],
 w1 16 .callv [.tm 10, .tm 14, .tm 15],
 w1 9 .mov [.tm 16],
 w1 17 (.ext 0) [.tm 9],
 w1 18 (.ext 1) [.tm 9],
 w0 (.store 2) [.tm 7, .tm 17],
 w1 8 .mov [.tm 18]])
 (.seq (.region [u1 19 .mov [.tm 0],
 u1 20 .nilCheck [.tm 19],
 u1 21 (.fieldAddr 2) [.tm 20],
 u1 22 .mov [.tm 8],
 u1 23 (.call 24) [.tm 21, .tm 22]])
 (.seq (.region [u1 24 .mov [.tm 0],
 u1 25 (.load true 2) [.tm 7],
 u1 26 .nilCheck [.tm 24],
 u1 27 (.fieldAddr 0) [.tm 26],
 u0 (.store 2) [.tm 27, .tm 25]])
 (.seq (.region [u1 28 .mov [.tm 0],
 u1 6 .mov [.tm 28]])
 .ret))))) }
theorem v13_is : vfunc Try.prog Try.f13 = some v13 := by kernel_rfl
def v23 : VF := { ntmps := 29, res := [.tmp 6], body :=
 (.seq (.region [u1 6 .mov [.cn (.val (.pointer none))]])
 (.seq (.region [u1 10 .mov [.tm 0],
 u1 11 .nilCheck [.tm 10],
 u1 12 (.fieldAddr 0) [.tm 11],
 u1 13 (.load true 2) [.tm 12],
 u1 14 .mov [.tm 1],
 u1 15 .mov [.tm 2],
 u1 16 (.call 36) [.tm 13, .tm 14, .tm 15],
 u1 9 .mov [.tm 16],
 u1 17 (.ext 0) [.tm 9],
 u1 18 (.ext 1) [.tm 9],
 u1 7 (.alloc [(.int .i64 0), (.int .i64 0)]) [],
 u0 (.store 2) [.tm 7, .tm 17],
 u1 8 .mov [.tm 18]])
 (.seq (.region [u1 19 .mov [.tm 0],
 u1 20 .nilCheck [.tm 19],
 u1 21 (.fieldAddr 2) [.tm 20],
 u1 22 .mov [.tm 8],
 u1 23 (.call 24) [.tm 21, .tm 22]])
 (.seq (.region [u1 24 .mov [.tm 0],
 u1 25 (.load true 2) [.tm 7],
 u1 26 .nilCheck [.tm 24],
 u1 27 (.fieldAddr 0) [.tm 26],
 u0 (.store 2) [.tm 27, .tm 25]])
 (.seq (.region [u1 28 .mov [.tm 0],
 u1 6 .mov [.tm 28]])
 .ret))))) }
theorem v23_is : vfunc Try.prog Try.f23 = some v23 := by kernel_rfl
def v35 : VF := { ntmps := 23, res := [.tmp 2], body :=
 (.seq (.region [u1 2 .mov [.cn (.val (.pointer none))]])
 (.seq (.region [u1 6 .mov [.tm 0],
 u1 7 .nilCheck [.tm 6],
 u1 8 (.fieldAddr 0) [.tm 7],
 u1 9 (.load true 2) [.tm 8],
 u1 10 (.call 43) [.tm 9, .cn (.int .i64 2)],
 u1 5 .mov [.tm 10],
 u1 11 (.ext 0) [.tm 5],
 u1 12 (.ext 1) [.tm 5],
 u1 3 (.alloc [(.int .i64 0), (.int .i64 0)]) [],
 u0 (.store 2) [.tm 3, .tm 11],
 u1 4 .mov [.tm 12]])
 (.seq (.region [u1 13 .mov [.tm 0],
 u1 14 .nilCheck [.tm 13],
 u1 15 (.fieldAddr 2) [.tm 14],
 u1 16 .mov [.tm 4],
 u1 17 (.call 24) [.tm 15, .tm 16]])
 (.seq (.region [u1 18 .mov [.tm 0],
 u1 19 (.load true 2) [.tm 3],
 u1 20 .nilCheck [.tm 18],
 u1 21 (.fieldAddr 0) [.tm 20],
 u0 (.store 2) [.tm 21, .tm 19]])
 (.seq (.region [u1 22 .mov [.tm 0],
 u1 2 .mov [.tm 22]])
 .ret))))) }
theorem v35_is : vfunc Try.prog Try.f35 = some v35 := by kernel_rfl
def v24 : VF := { ntmps := 13, res := [], body :=
 (.seq (.region [u1 4 .mov [.tm 0],
 u1 5 .nilCheck [.tm 4],
 u1 6 (.fieldAddr 0) [.tm 5],
 u1 7 (.load false 1) [.tm 6],
 u1 8 (.cmp .eql) [.tm 7, .cn (.int .i64 0)]])
 (.cond (.tm 8) (.region [u1 9 .mov [.tm 0],
 u1 10 .mov [.tm 1],
 u1 11 .nilCheck [.tm 9],
 u1 12 (.fieldAddr 0) [.tm 11],
 u0 (.store 1) [.tm 12, .tm 10]])
  .skip)) }
theorem v24_is : vfunc Try.prog Try.f24 = some v24 := by kernel_rfl
def v22 : VF := { ntmps := 49, res := [.cell 2 true 2, .cell 3 true 2], body :=
 (.seq (.region [u1 1 .box [.tm 0],
 u1 2 (.alloc [(.int .i64 0), (.int .i64 0)]) [],
 u1 3 (.alloc [(.int .i64 0), (.int .i64 0)]) []])
 (.seq (.region [u1 6 (.fieldAddr 1) [.tm 1],
 u1 7 (.load false 1) [.tm 6],
 u1 8 (.call 33) [.tm 7],
 u1 9 .nilCheck [.tm 8],
 u1 10 (.fieldAddr 0) [.tm 9],
 u1 11 (.load true 2) [.tm 10],
 u1 4 (.alloc [(.int .i64 0), (.int .i64 0)]) [],
 u0 (.store 2) [.tm 4, .tm 11]])
 (.seq (.draw [] [w1 12 (.fieldAddr 3) [.tm 1],
 w1 13 (.load false 1) [.tm 12],
 w1 15 (.fieldAddr 4) [.tm 1],
 w1 16 (.load false 1) [.tm 15],
 w1 14 (.call 33) [.tm 13],
 w1 17 (.call 33) [.tm 16],
 w1 18 .nilCheck [.tm 17],
 w1 19 (.fieldAddr 0) [.tm 18],
 w1 20 (.load true 2) [.tm 19],
 w1 21 (.call 13) [.tm 14, .cn (.fn (.func 34) [] []), .tm 20],
 w1 22 (.call 35) [.tm 21],
 w1 5 .mov [.tm 22]])
 (.seq (.drawT [] (.ops [w1 23 (.fieldAddr 1) [.tm 1]] (.ops [w1 24 (.load false 1) [.tm 23]] (.ops [w1 26 (.load true 2) [.tm 4]] (.br (.ops [w1 25 (.call 33) [.tm 24]] (.br (.ops [w1 27 (.call 13) [.tm 25, .cn (.fn (.func 34) [] []), .tm 26]] (.br (.ops [w1 28 (.call 23) [.tm 27, .cn (.int .i64 575), .cn (.int .i64 1000)]] (.ops [w1 29 .mov [.tm 5]] (.ops [w1 30 .nilCheck [.tm 29]] (.ops [w1 31 (.fieldAddr 0) [.tm 30]] (.ops [w1 32 (.load true 2) [.tm 31]] (.ops [w1 33 (.call 13) [.tm 28, .cn (.fn (.func 14) [] []), .tm 32]] (.ops [w1 34 .nilCheck [.tm 33]] (.ops [w1 35 (.fieldAddr 0) [.tm 34]] (.ops [w1 36 (.load true 2) [.tm 35]] (.ops [w0 (.store 2) [.tm 2, .tm 36]] .leaf))))))))))
 (.ops [w1 29 .mov [.tm 5]] (.br (.ops [w1 28 (.call 23) [.tm 27, .cn (.int .i64 575), .cn (.int .i64 1000)]] (.ops [w1 30 .nilCheck [.tm 29]] (.ops [w1 31 (.fieldAddr 0) [.tm 30]] (.ops [w1 32 (.load true 2) [.tm 31]] (.ops [w1 33 (.call 13) [.tm 28, .cn (.fn (.func 14) [] []), .tm 32]] (.ops [w1 34 .nilCheck [.tm 33]] (.ops [w1 35 (.fieldAddr 0) [.tm 34]] (.ops [w1 36 (.load true 2) [.tm 35]] (.ops [w0 (.store 2) [.tm 2, .tm 36]] .leaf)))))))))
 (.ops [w1 30 .nilCheck [.tm 29]] (.br (.ops [w1 28 (.call 23) [.tm 27, .cn (.int .i64 575), .cn (.int .i64 1000)]] (.ops [w1 31 (.fieldAddr 0) [.tm 30]] (.ops [w1 32 (.load true 2) [.tm 31]] (.ops [w1 33 (.call 13) [.tm 28, .cn (.fn (.func 14) [] []), .tm 32]] (.ops [w1 34 .nilCheck [.tm 33]] (.ops [w1 35 (.fieldAddr 0) [.tm 34]] (.ops [w1 36 (.load true 2) [.tm 35]] (.ops [w0 (.store 2) [.tm 2, .tm 36]] .leaf))))))))
 (.ops [w1 31 (.fieldAddr 0) [.tm 30]] (.br (.ops [w1 28 (.call 23) [.tm 27, .cn (.int .i64 575), .cn (.int .i64 1000)]] (.ops [w1 32 (.load true 2) [.tm 31]] (.ops [w1 33 (.call 13) [.tm 28, .cn (.fn (.func 14) [] []), .tm 32]] (.ops [w1 34 .nilCheck [.tm 33]] (.ops [w1 35 (.fieldAddr 0) [.tm 34]] (.ops [w1 36 (.load true 2) [.tm 35]] (.ops [w0 (.store 2) [.tm 2, .tm 36]] .leaf)))))))
 (.ops [w1 32 (.load true 2) [.tm 31]] (.ops [w1 28 (.call 23) [.tm 27, .cn (.int .i64 575), .cn (.int .i64 1000)]] (.ops [w1 33 (.call 13) [.tm 28, .cn (.fn (.func 14) [] []), .tm 32]] (.ops [w1 34 .nilCheck [.tm 33]] (.ops [w1 35 (.fieldAddr 0) [.tm 34]] (.ops [w1 36 (.load true 2) [.tm 35]] (.ops [w0 (.store 2) [.tm 2, .tm 36]] .leaf)))))))))))))))
 (.ops [w1 29 .mov [.tm 5]] (.br (.ops [w1 27 (.call 13) [.tm 25, .cn (.fn (.func 34) [] []), .tm 26]] (.br (.ops [w1 28 (.call 23) [.tm 27, .cn (.int .i64 575), .cn (.int .i64 1000)]] (.ops [w1 30 .nilCheck [.tm 29]] (.ops [w1 31 (.fieldAddr 0) [.tm 30]] (.ops [w1 32 (.load true 2) [.tm 31]] (.ops [w1 33 (.call 13) [.tm 28, .cn (.fn (.func 14) [] []), .tm 32]] (.ops [w1 34 .nilCheck [.tm 33]] (.ops [w1 35 (.fieldAddr 0) [.tm 34]] (.ops [w1 36 (.load true 2) [.tm 35]] (.ops [w0 (.store 2) [.tm 2, .tm 36]] .leaf)))))))))
 (.ops [w1 30 .nilCheck [.tm 29]] (.br (.ops [w1 28 (.call 23) [.tm 27, .cn (.int .i64 575), .cn (.int .i64 1000)]] (.ops [w1 31 (.fieldAddr 0) [.tm 30]] (.ops [w1 32 (.load true 2) [.tm 31]] (.ops [w1 33 (.call 13) [.tm 28, .cn (.fn (.func 14) [] []), .tm 32]] (.ops [w1 34 .nilCheck [.tm 33]] (.ops [w1 35 (.fieldAddr 0) [.tm 34]] (.ops [w1 36 (.load true 2) [.tm 35]] (.ops [w0 (.store 2) [.tm 2, .tm 36]] .leaf))))))))
 (.ops [w1 31 (.fieldAddr 0) [.tm 30]] (.br (.ops [w1 28 (.call 23) [.tm 27, .cn (.int .i64 575), .cn (.int .i64 1000)]] (.ops [w1 32 (.load true 2) [.tm 31]] (.ops [w1 33 (.call 13) [.tm 28, .cn (.fn (.func 14) [] []), .tm 32]] (.ops [w1 34 .nilCheck [.tm 33]] (.ops [w1 35 (.fieldAddr 0) [.tm 34]] (.ops [w1 36 (.load true 2) [.tm 35]] (.ops [w0 (.store 2) [.tm 2, .tm 36]] .leaf)))))))
 (.ops [w1 32 (.load true 2) [.tm 31]] (.ops [w1 28 (.call 23) [.tm 27, .cn (.int .i64 575), .cn (.int .i64 1000)]] (.ops [w1 33 (.call 13) [.tm 28, .cn (.fn (.func 14) [] []), .tm 32]] (.ops [w1 34 .nilCheck [.tm 33]] (.ops [w1 35 (.fieldAddr 0) [.tm 34]] (.ops [w1 36 (.load true 2) [.tm 35]] (.ops [w0 (.store 2) [.tm 2, .tm 36]] .leaf)))))))))))))
 (.ops [w1 30 .nilCheck [.tm 29]] (.br (.ops [w1 27 (.call 13) [.tm 25, .cn (.fn (.func 34) [] []), .tm 26]] (.br (.ops [w1 28 (.call 23) [.tm 27, .cn (.int .i64 575), .cn (.int .i64 1000)]] (.ops [w1 31 (.fieldAddr 0) [.tm 30]] (.ops [w1 32 (.load true 2) [.tm 31]] (.ops [w1 33 (.call 13) [.tm 28, .cn (.fn (.func 14) [] []), .tm 32]] (.ops [w1 34 .nilCheck [.tm 33]] (.ops [w1 35 (.fieldAddr 0) [.tm 34]] (.ops [w1 36 (.load true 2) [.tm 35]] (.ops [w0 (.store 2) [.tm 2, .tm 36]] .leaf))))))))
 (.ops [w1 31 (.fieldAddr 0) [.tm 30]] (.br (.ops [w1 28 (.call 23) [.tm 27, .cn (.int .i64 575), .cn (.int .i64 1000)]] (.ops [w1 32 (.load true 2) [.tm 31]] (.ops [w1 33 (.call 13) [.tm 28, .cn (.fn (.func 14) [] []), .tm 32]] (.ops [w1 34 .nilCheck [.tm 33]] (.ops [w1 35 (.fieldAddr 0) [.tm 34]] (.ops [w1 36 (.load true 2) [.tm 35]] (.ops [w0 (.store 2) [.tm 2, .tm 36]] .leaf)))))))
 (.ops [w1 32 (.load true 2) [.tm 31]] (.ops [w1 28 (.call 23) [.tm 27, .cn (.int .i64 575), .cn (.int .i64 1000)]] (.ops [w1 33 (.call 13) [.tm 28, .cn (.fn (.func 14) [] []), .tm 32]] (.ops [w1 34 .nilCheck [.tm 33]] (.ops [w1 35 (.fieldAddr 0) [.tm 34]] (.ops [w1 36 (.load true 2) [.tm 35]] (.ops [w0 (.store 2) [.tm 2, .tm 36]] .leaf)))))))))))
 (.ops [w1 31 (.fieldAddr 0) [.tm 30]] (.br (.ops [w1 27 (.call 13) [.tm 25, .cn (.fn (.func 34) [] []), .tm 26]] (.br (.ops [w1 28 (.call 23) [.tm 27, .cn (.int .i64 575), .cn (.int .i64 1000)]] (.ops [w1 32 (.load true 2) [.tm 31]] (.ops [w1 33 (.call 13) [.tm 28, .cn (.fn (.func 14) [] []), .tm 32]] (.ops [w1 34 .nilCheck [.tm 33]] (.ops [w1 35 (.fieldAddr 0) [.tm 34]] (.ops [w1 36 (.load true 2) [.tm 35]] (.ops [w0 (.store 2) [.tm 2, .tm 36]] .leaf)))))))
 (.ops [w1 32 (.load true 2) [.tm 31]] (.ops [w1 28 (.call 23) [.tm 27, .cn (.int .i64 575), .cn (.int .i64 1000)]] (.ops [w1 33 (.call 13) [.tm 28, .cn (.fn (.func 14) [] []), .tm 32]] (.ops [w1 34 .nilCheck [.tm 33]] (.ops [w1 35 (.fieldAddr 0) [.tm 34]] (.ops [w1 36 (.load true 2) [.tm 35]] (.ops [w0 (.store 2) [.tm 2, .tm 36]] .leaf)))))))))
 (.ops [w1 32 (.load true 2) [.tm 31]] (.ops [w1 27 (.call 13) [.tm 25, .cn (.fn (.func 34) [] []), .tm 26]] (.ops [w1 28 (.call 23) [.tm 27, .cn (.int .i64 575), .cn (.int .i64 1000)]] (.ops [w1 33 (.call 13) [.tm 28, .cn (.fn (.func 14) [] []), .tm 32]] (.ops [w1 34 .nilCheck [.tm 33]] (.ops [w1 35 (.fieldAddr 0) [.tm 34]] (.ops [w1 36 (.load true 2) [.tm 35]] (.ops [w0 (.store 2) [.tm 2, .tm 36]] .leaf))))))))))))))))
 (.ops [w1 29 .mov [.tm 5]] (.br (.ops [w1 25 (.call 33) [.tm 24]] (.br (.ops [w1 27 (.call 13) [.tm 25, .cn (.fn (.func 34) [] []), .tm 26]] (.br (.ops [w1 28 (.call 23) [.tm 27, .cn (.int .i64 575), .cn (.int .i64 1000)]] (.ops [w1 30 .nilCheck [.tm 29]] (.ops [w1 31 (.fieldAddr 0) [.tm 30]] (.ops [w1 32 (.load true 2) [.tm 31]] (.ops [w1 33 (.call 13) [.tm 28, .cn (.fn (.func 14) [] []), .tm 32]] (.ops [w1 34 .nilCheck [.tm 33]] (.ops [w1 35 (.fieldAddr 0) [.tm 34]] (.ops [w1 36 (.load true 2) [.tm 35]] (.ops [w0 (.store 2) [.tm 2, .tm 36]] .leaf)))))))))
 (.ops [w1 30 .nilCheck [.tm 29]] (.br (.ops [w1 28 (.call 23) [.tm 27, .cn (.int .i64 575), .cn (.int .i64 1000)]] (.ops [w1 31 (.fieldAddr 0) [.tm 30]] (.ops [w1 32 (.load true 2) [.tm 31]] (.ops [w1 33 (.call 13) [.tm 28, .cn (.fn (.func 14) [] []), .tm 32]] (.ops [w1 34 .nilCheck [.tm 33]] (.ops [w1 35 (.fieldAddr 0) [.tm 34]] (.ops [w1 36 (.load true 2) [.tm 35]] (.ops [w0 (.store 2) [.tm 2, .tm 36]] .leaf))))))))
 (.ops [w1 31 (.fieldAddr 0) [.tm 30]] (.br (.ops [w1 28 (.call 23) [.tm 27, .cn (.int .i64 575), .cn (.int .i64 1000)]] (.ops [w1 32 (.load true 2) [.tm 31]] (.ops [w1 33 (.call 13) [.tm 28, .cn (.fn (.func 14) [] []), .tm 32]] (.ops [w1 34 .nilCheck [.tm 33]] (.ops [w1 35 (.fieldAddr 0) [.tm 34]] (.ops [w1 36 (.load true 2) [.tm 35]] (.ops [w0 (.store 2) [.tm 2, .tm 36]] .leaf)))))))
 (.ops [w1 32 (.load true 2) [.tm 31]] (.ops [w1 28 (.call 23) [.tm 27, .cn (.int .i64 575), .cn (.int .i64 1000)]] (.ops [w1 33 (.call 13) [.tm 28, .cn (.fn (.func 14) [] []), .tm 32]] (.ops [w1 34 .nilCheck [.tm 33]] (.ops [w1 35 (.fieldAddr 0) [.tm 34]] (.ops [w1 36 (.load true 2) [.tm 35]] (.ops [w0 (.store 2) [.tm 2, .tm 36]] .leaf)))))))))))))
 (.ops [w1 30 .nilCheck [.tm 29]] (.br (.ops [w1 27 (.call 13) [.tm 25, .cn (.fn (.func 34) [] []), .tm 26]] (.br (.ops [w1 28 (.call 23) [.tm 27, .cn (.int .i64 575), .cn (.int .i64 1000)]] (.ops [w1 31 (.fieldAddr 0) [.tm 30]] (.ops [w1 32 (.load true 2) [.tm 31]] (.ops [w1 33 (.call 13) [.tm 28, .cn (.fn (.func 14) [] []), .tm 32]] (.ops [w1 34 .nilCheck [.tm 33]] (.ops [w1 35 (.fieldAddr 0) [.tm 34]] (.ops [w1 36 (.load true 2) [.tm 35]] (.ops [w0 (.store 2) [.tm 2, .tm 36]] .leaf))))))))
 (.ops [w1 31 (.fieldAddr 0) [.tm 30]] (.br (.ops [w1 28 (.call 23) [.tm 27, .cn (.int .i64 575), .cn (.int .i64 1000)]] (.ops [w1 32 (.load true 2) [.tm 31]] (.ops [w1 33 (.call 13) [.tm 28, .cn (.fn (.func 14) [] []), .tm 32]] (.ops [w1 34 .nilCheck [.tm 33]] (.ops [w1 35 (.fieldAddr 0) [.tm 34]] (.ops [w1 36 (.load true 2) [.tm 35]] (.ops [w0 (.store 2) [.tm 2, .tm 36]] .leaf)))))))
 (.ops [w1 32 (.load true 2) [.tm 31]] (.ops [w1 28 (.call 23) [.tm 27, .cn (.int .i64 575), .cn (.int .i64 1000)]] (.ops [w1 33 (.call 13) [.tm 28, .cn (.fn (.func 14) [] []), .tm 32]] (.ops [w1 34 .nilCheck [.tm 33]] (.ops [w1 35 (.fieldAddr 0) [.tm 34]] (.ops [w1 36 (.load true 2) [.tm 35]] (.ops [w0 (.store 2) [.tm 2, .tm 36]] .leaf)))))))))))
 (.ops [w1 31 (.fieldAddr 0) [.tm 30]] (.br (.ops [w1 27 (.call 13) [.tm 25, .cn (.fn (.func 34) [] []), .tm 26]] (.br (.ops [w1 28 (.call 23) [.tm 27, .cn (.int .i64 575), .cn (.int .i64 1000)]] (.ops [w1 32 (.load true 2) [.tm 31]] (.ops [w1 33 (.call 13) [.tm 28, .cn (.fn (.func 14) [] []), .tm 32]] (.ops [w1 34 .nilCheck [.tm 33]] (.ops [w1 35 (.fieldAddr 0) [.tm 34]] (.ops [w1 36 (.load true 2) [.tm 35]] (.ops [w0 (.store 2) [.tm 2, .tm 36]] .leaf)))))))
 (.ops [w1 32 (.load true 2) [.tm 31]] (.ops [w1 28 (.call 23) [.tm 27, .cn (.int .i64 575), .cn (.int .i64 1000)]] (.ops [w1 33 (.call 13) [.tm 28, .cn (.fn (.func 14) [] []), .tm 32]] (.ops [w1 34 .nilCheck [.tm 33]] (.ops [w1 35 (.fieldAddr 0) [.tm 34]] (.ops [w1 36 (.load true 2) [.tm 35]] (.ops [w0 (.store 2) [.tm 2, .tm 36]] .leaf)))))))))
 (.ops [w1 32 (.load true 2) [.tm 31]] (.ops [w1 27 (.call 13) [.tm 25, .cn (.fn (.func 34) [] []), .tm 26]] (.ops [w1 28 (.call 23) [.tm 27, .cn (.int .i64 575), .cn (.int .i64 1000)]] (.ops [w1 33 (.call 13) [.tm 28, .cn (.fn (.func 14) [] []), .tm 32]] (.ops [w1 34 .nilCheck [.tm 33]] (.ops [w1 35 (.fieldAddr 0) [.tm 34]] (.ops [w1 36 (.load true 2) [.tm 35]] (.ops [w0 (.store 2) [.tm 2, .tm 36]] .leaf))))))))))))))
 (.ops [w1 30 .nilCheck [.tm 29]] (.br (.ops [w1 25 (.call 33) [.tm 24]] (.br (.ops [w1 27 (.call 13) [.tm 25, .cn (.fn (.func 34) [] []), .tm 26]] (.br (.ops [w1 28 (.call 23) [.tm 27, .cn (.int .i64 575), .cn (.int .i64 1000)]] (.ops [w1 31 (.fieldAddr 0) [.tm 30]] (.ops [w1 32 (.load true 2) [.tm 31]] (.ops [w1 33 (.call 13) [.tm 28, .cn (.fn (.func 14) [] []), .tm 32]] (.ops [w1 34 .nilCheck [.tm 33]] (.ops [w1 35 (.fieldAddr 0) [.tm 34]] (.ops [w1 36 (.load true 2) [.tm 35]] (.ops [w0 (.store 2) [.tm 2, .tm 36]] .leaf))))))))
 (.ops [w1 31 (.fieldAddr 0) [.tm 30]] (.br (.ops [w1 28 (.call 23) [.tm 27, .cn (.int .i64 575), .cn (.int .i64 1000)]] (.ops [w1 32 (.load true 2) [.tm 31]] (.ops [w1 33 (.call 13) [.tm 28, .cn (.fn (.func 14) [] []), .tm 32]] (.ops [w1 34 .nilCheck [.tm 33]] (.ops [w1 35 (.fieldAddr 0) [.tm 34]] (.ops [w1 36 (.load true 2) [.tm 35]] (.ops [w0 (.store 2) [.tm 2, .tm 36]] .leaf)))))))
 (.ops [w1 32 (.load true 2) [.tm 31]] (.ops [w1 28 (.call 23) [.tm 27, .cn (.int .i64 575), .cn (.int .i64 1000)]] (.ops [w1 33 (.call 13) [.tm 28, .cn (.fn (.func 14) [] []), .tm 32]] (.ops [w1 34 .nilCheck [.tm 33]] (.ops [w1 35 (.fieldAddr 0) [.tm 34]] (.ops [w1 36 (.load true 2) [.tm 35]] (.ops [w0 (.store 2) [.tm 2, .tm 36]] .leaf)))))))))))
 (.ops [w1 31 (.fieldAddr 0) [.tm 30]] (.br (.ops [w1 27 (.call 13) [.tm 25, .cn (.fn (.func 34) [] []), .tm 26]] (.br (.ops [w1 28 (.call 23) [.tm 27, .cn (.int .i64 575), .cn (.int .i64 1000)]] (.ops [w1 32 (.load true 2) [.tm 31]] (.ops [w1 33 (.call 13) [.tm 28, .cn (.fn (.func 14) [] []), .tm 32]] (.ops [w1 34 .nilCheck [.tm 33]] (.ops [w1 35 (.fieldAddr 0) [.tm 34]] (.ops [w1 36 (.load true 2) [.tm 35]] (.ops [w0 (.store 2) [.tm 2, .tm 36]] .leaf)))))))
 (.ops [w1 32 (.load true 2) [.tm 31]] (.ops [w1 28 (.call 23) [.tm 27, .cn (.int .i64 575), .cn (.int .i64 1000)]] (.ops [w1 33 (.call 13) [.tm 28, .cn (.fn (.func 14) [] []), .tm 32]] (.ops [w1 34 .nilCheck [.tm 33]] (.ops [w1 35 (.fieldAddr 0) [.tm 34]] (.ops [w1 36 (.load true 2) [.tm 35]] (.ops [w0 (.store 2) [.tm 2, .tm 36]] .leaf)))))))))
 (.ops [w1 32 (.load true 2) [.tm 31]] (.ops [w1 27 (.call 13) [.tm 25, .cn (.fn (.func 34) [] []), .tm 26]] (.ops [w1 28 (.call 23) [.tm 27, .cn (.int .i64 575), .cn (.int .i64 1000)]] (.ops [w1 33 (.call 13) [.tm 28, .cn (.fn (.func 14) [] []), .tm 32]] (.ops [w1 34 .nilCheck [.tm 33]] (.ops [w1 35 (.fieldAddr 0) [.tm 34]] (.ops [w1 36 (.load true 2) [.tm 35]] (.ops [w0 (.store 2) [.tm 2, .tm 36]] .leaf))))))))))))
 (.ops [w1 31 (.fieldAddr 0) [.tm 30]] (.br (.ops [w1 25 (.call 33) [.tm 24]] (.br (.ops [w1 27 (.call 13) [.tm 25, .cn (.fn (.func 34) [] []), .tm 26]] (.br (.ops [w1 28 (.call 23) [.tm 27, .cn (.int .i64 575), .cn (.int .i64 1000)]] (.ops [w1 32 (.load true 2) [.tm 31]] (.ops [w1 33 (.call 13) [.tm 28, .cn (.fn (.func 14) [] []), .tm 32]] (.ops [w1 34 .nilCheck [.tm 33]] (.ops [w1 35 (.fieldAddr 0) [.tm 34]] (.ops [w1 36 (.load true 2) [.tm 35]] (.ops [w0 (.store 2) [.tm 2, .tm 36]] .leaf)))))))
 (.ops [w1 32 (.load true 2) [.tm 31]] (.ops [w1 28 (.call 23) [.tm 27, .cn (.int .i64 575), .cn (.int .i64 1000)]] (.ops [w1 33 (.call 13) [.tm 28, .cn (.fn (.func 14) [] []), .tm 32]] (.ops [w1 34 .nilCheck [.tm 33]] (.ops [w1 35 (.fieldAddr 0) [.tm 34]] (.ops [w1 36 (.load true 2) [.tm 35]] (.ops [w0 (.store 2) [.tm 2, .tm 36]] .leaf)))))))))
 (.ops [w1 32 (.load true 2) [.tm 31]] (.ops [w1 27 (.call 13) [.tm 25, .cn (.fn (.func 34) [] []), .tm 26]] (.ops [w1 28 (.call 23) [.tm 27, .cn (.int .i64 575), .cn (.int .i64 1000)]] (.ops [w1 33 (.call 13) [.tm 28, .cn (.fn (.func 14) [] []), .tm 32]] (.ops [w1 34 .nilCheck [.tm 33]] (.ops [w1 35 (.fieldAddr 0) [.tm 34]] (.ops [w1 36 (.load true 2) [.tm 35]] (.ops [w0 (.store 2) [.tm 2, .tm 36]] .leaf))))))))))
 (.ops [w1 32 (.load true 2) [.tm 31]] (.ops [w1 25 (.call 33) [.tm 24]] (.ops [w1 27 (.call 13) [.tm 25, .cn (.fn (.func 34) [] []), .tm 26]] (.ops [w1 28 (.call 23) [.tm 27, .cn (.int .i64 575), .cn (.int .i64 1000)]] (.ops [w1 33 (.call 13) [.tm 28, .cn (.fn (.func 14) [] []), .tm 32]] (.ops [w1 34 .nilCheck [.tm 33]] (.ops [w1 35 (.fieldAddr 0) [.tm 34]] (.ops [w1 36 (.load true 2) [.tm 35]] (.ops [w0 (.store 2) [.tm 2, .tm 36]] .leaf))))))))))))))))))))
 (.seq (.seq (.region [u1 37 (.fieldAddr 0) [.tm 1],
 u1 38 (.load false 1) [.tm 37],
 u1 39 (.cmp .neq) [.tm 38, .cn (.int .i64 2)]])
 (.cond (.tm 39) (.region [u1 40 (.fieldAddr 2) [.tm 1],
 u1 41 (.load false 1) [.tm 40],
 u1 42 (.call 33) [.tm 41],
 u1 43 (.call 23) [.tm 42, .cn (.int .i64 30665), .cn (.int .i64 100000)],
 u1 44 .nilCheck [.tm 43],
 u1 45 (.fieldAddr 0) [.tm 44],
 u1 46 (.load true 2) [.tm 45],
 u0 (.store 2) [.tm 3, .tm 46]])
  .skip))
 (.seq (.draw [] [w1 47 (.load true 2) [.tm 2],
 w1 48 (.load true 2) [.tm 3],
 ⟨u0 (.store 2) [.tm 2, .tm 47], [.tm 3]⟩,
 w0 (.store 2) [.tm 3, .tm 48]])
 .ret)))))) }
theorem v22_is : vfunc Try.prog Try.f22 = some v22 := by kernel_rfl
def ofSC : Ctr := { alias := false, of := fun l => match l with
  | [.int .i64 n] => .fin (.ptr 0 0) [.box [.int .i64 n, .int .i64 n, .int .i64 0]]
  | _ => noC }
def L2 : Env := { ct := fun _ => none, fn := fun _ => none, meth := fun _ _ => none }
theorem L2_ok : EnvOk Try.prog L2 := by
  refine ⟨fun f c h => ?_, fun f vf h => ?_, (fun _ _ _ h => by cases h), by kernel_rfl, (fun _ h => by cases h)⟩
  · cases h
  · cases h
theorem ofS_c : ofSC.ok Try.prog 33 := by
  refine contract_own Try.func33 v33_is L2_ok 100 ofSC fun args k h => ?_
  simp only [ofSC] at h
  split at h
  · rename_i n
    refine ⟨[.int .i64 n], by simp [leL, le], ?_⟩
    dsimp only [v33, go_sem, reduceIte]
    simp only [t_all, forall_const, ne_eq, implies_true, Nat.reduceAdd, Nat.reduceLeDiff, reduceCtorEq, Nat.reduceEqDiff]
    exact ⟨h, trivial, ⟨trivial, trivial, trivial, trivial⟩, trivial⟩
  · exact h.1.elim
def corC : Ctr := { alias := false, of := fun l => match l with
  | [.agg [.int .i64 a, .int .i64 b, .int .i64 c, .int .i64 d, .int .i64 e]] => .pre (chkB ⟨a, b, c, d, e⟩ = 0) (.fin (.tup [.agg (enc2 (mouthF ⟨a, b, c, d, e⟩)), .agg (enc2 (endF ⟨a, b, c, d, e⟩))]) [])
  | _ => noC }
theorem ans_cor {k : SV → List HO → Prop} {al : Bool} {hp : List HO} {p q : Iv} (h : k (.tup [.agg (enc2 p), .agg (enc2 q)]) []) : answers al k (.tup [.agg [.int .i64 p.1, .int .i64 p.2], .agg [.int .i64 q.1, .int .i64 q.2]]) hp :=
  ans_le (show k _ [] from h) (le_self (.tup [.agg [.int .i64 p.1, .int .i64 p.2], .agg [.int .i64 q.1, .int .i64 q.2]]) ⟨⟨trivial, trivial, trivial⟩, ⟨trivial, trivial, trivial⟩, trivial⟩) (fun _ => by simp [enc2, freshS, freshL])
def L1 : Env := { ct := fun n => match n with | 34 => some mulC | 14 => some quoC | 36 => some sclC | 43 => some rootC | 33 => some ofSC | _ => none, fn := fun n => match n with | 13 => some v13 | 23 => some v23 | 35 => some v35 | 24 => some v24 | _ => none, meth := fun _ _ => none, lo := fun n => match n with | 13 => true | 23 => true | 35 => true | _ => false }
theorem L1_ct34 : L1.ct 34 = some mulC := rfl
theorem L1_ct14 : L1.ct 14 = some quoC := rfl
theorem L1_ct36 : L1.ct 36 = some sclC := rfl
theorem L1_ct43 : L1.ct 43 = some rootC := rfl
theorem L1_ct33 : L1.ct 33 = some ofSC := rfl
theorem L1_ct13 : L1.ct 13 = none := rfl
theorem L1_fn13 : L1.fn 13 = some v13 := rfl
theorem L1_ct23 : L1.ct 23 = none := rfl
theorem L1_fn23 : L1.fn 23 = some v23 := rfl
theorem L1_ct35 : L1.ct 35 = none := rfl
theorem L1_fn35 : L1.fn 35 = some v35 := rfl
theorem L1_ct24 : L1.ct 24 = none := rfl
theorem L1_fn24 : L1.fn 24 = some v24 := rfl
theorem L1_ok : EnvOk Try.prog L1 := by
  refine ⟨fun f c h => ?_, fun f vf h => ?_, (fun _ _ _ h => by cases h), by kernel_rfl, fun f h => ?_⟩
  · simp only [L1] at h
    split at h
    · cases h; exact ⟨mul_ok, Try.f34, Try.func34, by kernel_rfl, by kernel_rfl⟩
    · cases h; exact ⟨quo_ok, Try.f14, Try.func14, by kernel_rfl, by kernel_rfl⟩
    · cases h; exact ⟨scl_ok, Try.f36, Try.func36, by kernel_rfl, by kernel_rfl⟩
    · cases h; exact ⟨root_ok, Try.f43, Try.func43, by kernel_rfl, by kernel_rfl⟩
    · cases h; exact ⟨ofS_c, Try.f33, Try.func33, by kernel_rfl, by kernel_rfl⟩
    · cases h
  · simp only [L1] at h
    split at h
    · cases h; exact ⟨Try.f13, Try.func13, v13_is, Try.f13, Try.func13, by kernel_rfl, by kernel_rfl⟩
    · cases h; exact ⟨Try.f23, Try.func23, v23_is, Try.f23, Try.func23, by kernel_rfl, by kernel_rfl⟩
    · cases h; exact ⟨Try.f35, Try.func35, v35_is, Try.f35, Try.func35, by kernel_rfl, by kernel_rfl⟩
    · cases h; exact ⟨Try.f24, Try.func24, v24_is, Try.f24, Try.func24, by kernel_rfl, by kernel_rfl⟩
    · cases h
  · simp only [L1] at h
    split at h
    · kernel_rfl
    · kernel_rfl
    · kernel_rfl
    · cases h
theorem L1_lo13 : L1.lo 13 = true := rfl
theorem L1_lo23 : L1.lo 23 = true := rfl
theorem L1_lo35 : L1.lo 35 = true := rfl
theorem cor_c : corC.ok Try.prog 22 := by
  refine contract Try.func22 v22_is L1_ok 600 corC fun args k h => ?_
  simp only [corC] at h
  split at h
  · rename_i a b c d e
    obtain ⟨hchk, h⟩ := h
    obtain ⟨_, ⟨b0, b1⟩, ⟨c0, c1⟩, ⟨d0, d1⟩, e0, e1⟩ := chkB_ok hchk
    dsimp only at b0 b1 c0 c1 d0 d1 e0 e1
    have M1 : (mulF (d, d) (e, e)).2 = 0 := by rw [mul_e0 (by omega) d1 (by omega) e1]
    have M2 : (mulF (b, b) (b, b)).2 = 0 := by rw [mul_e0 (by omega) (by omega) (by omega) (by omega)]
    have M3 : (sclF ((mulF (b, b) (b, b)).1.1, (mulF (b, b) (b, b)).1.2) 575 1000).2 = 0 := by
      have hb1 : b * b ≤ 500000 * 500000 := mul_le' b1 b1 (by omega) (by decide)
      have hb0 : 0 ≤ b * b := Int.mul_nonneg (by omega) (by omega)
      rw [mul_e0 (by omega) (by omega) (by omega) (by omega)]
      exact scl_e0 hb0 (Int.le_refl _) (by simp only; omega) (by decide) (by decide) (by decide) (by decide)
    have hN : ¬ a = 2 → k (.tup [.agg (enc2 (mouthF ⟨a, b, c, d, e⟩)), .agg (enc2 (sclF (c, c) 30665 100000).1)]) [] := fun hc => by
      have h : k (.tup [.agg (enc2 (mouthF ⟨a, b, c, d, e⟩)), .agg (enc2 (endF ⟨a, b, c, d, e⟩))]) [] := h
      rw [endF, if_neg hc] at h; exact h
    have hY : a = 2 → k (.tup [.agg (enc2 (mouthF ⟨a, b, c, d, e⟩)), .agg (enc2 ((0, 0) : Iv))]) [] := fun hc => by
      have h : k (.tup [.agg (enc2 (mouthF ⟨a, b, c, d, e⟩)), .agg (enc2 (endF ⟨a, b, c, d, e⟩))]) [] := h
      rw [endF, if_pos hc] at h; exact h
    refine ⟨[.agg [.int .i64 a, .int .i64 b, .int .i64 c, .int .i64 d, .int .i64 e]], by simp [leL, le], ?_⟩
    dsimp only [v22, L1_ct34, L1_ct14, L1_ct36, L1_ct43, L1_ct33, ofSC, mulC, quoC, sclC, rootC, iv2C, ivoC, enc2, L1_ct13, L1_fn13, L1_lo13, v13, L1_ct23, L1_fn23, L1_lo23, v23, L1_ct35, L1_fn35, L1_lo35, v35, L1_ct24, L1_fn24, v24, go_sem, reduceIte]
    simp only [t_all, forall_const, ne_eq, implies_true, Nat.reduceAdd, Nat.reduceLeDiff, reduceCtorEq, Nat.reduceEqDiff]
    (refine enter_at _ (by ((try dsimp only [L1_ct34, L1_ct14, L1_ct36, L1_ct43, L1_ct33, ofSC, mulC, quoC, sclC, rootC, iv2C, ivoC, enc2, L1_ct13, L1_fn13, L1_lo13, v13, L1_ct23, L1_fn23, L1_lo23, v23, L1_ct35, L1_fn35, L1_lo35, v35, L1_ct24, L1_fn24, v24, go_sem, reduceIte]); (try simp only [t_all, forall_const, ne_eq, implies_true, Nat.reduceAdd, Nat.reduceLeDiff, reduceCtorEq, Nat.reduceEqDiff])); exact ⟨by decide, by decide, rfl, fun hh => absurd trivial hh⟩) ?_; (try simp only [M1, M2, M3]); ((try dsimp only [L1_ct34, L1_ct14, L1_ct36, L1_ct43, L1_ct33, ofSC, mulC, quoC, sclC, rootC, iv2C, ivoC, enc2, L1_ct13, L1_fn13, L1_lo13, v13, L1_ct23, L1_fn23, L1_lo23, v23, L1_ct35, L1_fn35, L1_lo35, v35, L1_ct24, L1_fn24, v24, go_sem, reduceIte]); (try simp only [t_all, forall_const, ne_eq, implies_true, Nat.reduceAdd, Nat.reduceLeDiff, reduceCtorEq, Nat.reduceEqDiff])))
    (refine enter_at _ (by ((try dsimp only [L1_ct34, L1_ct14, L1_ct36, L1_ct43, L1_ct33, ofSC, mulC, quoC, sclC, rootC, iv2C, ivoC, enc2, L1_ct13, L1_fn13, L1_lo13, v13, L1_ct23, L1_fn23, L1_lo23, v23, L1_ct35, L1_fn35, L1_lo35, v35, L1_ct24, L1_fn24, v24, go_sem, reduceIte]); (try simp only [t_all, forall_const, ne_eq, implies_true, Nat.reduceAdd, Nat.reduceLeDiff, reduceCtorEq, Nat.reduceEqDiff])); exact ⟨by decide, by decide, rfl, fun hh => absurd trivial hh⟩) ?_; (try simp only [M1, M2, M3]); ((try dsimp only [L1_ct34, L1_ct14, L1_ct36, L1_ct43, L1_ct33, ofSC, mulC, quoC, sclC, rootC, iv2C, ivoC, enc2, L1_ct13, L1_fn13, L1_lo13, v13, L1_ct23, L1_fn23, L1_lo23, v23, L1_ct35, L1_fn35, L1_lo35, v35, L1_ct24, L1_fn24, v24, go_sem, reduceIte]); (try simp only [t_all, forall_const, ne_eq, implies_true, Nat.reduceAdd, Nat.reduceLeDiff, reduceCtorEq, Nat.reduceEqDiff])))
    repeat' (first | apply And.intro | (refine enter_at _ (by ((try dsimp only [L1_ct34, L1_ct14, L1_ct36, L1_ct43, L1_ct33, ofSC, mulC, quoC, sclC, rootC, iv2C, ivoC, enc2, L1_ct13, L1_fn13, L1_lo13, v13, L1_ct23, L1_fn23, L1_lo23, v23, L1_ct35, L1_fn35, L1_lo35, v35, L1_ct24, L1_fn24, v24, go_sem, reduceIte]); (try simp only [t_all, forall_const, ne_eq, implies_true, Nat.reduceAdd, Nat.reduceLeDiff, reduceCtorEq, Nat.reduceEqDiff])); exact ⟨by decide, by decide, rfl, fun hh => absurd trivial hh⟩) ?_; (try simp only [M1, M2, M3]); ((try dsimp only [L1_ct34, L1_ct14, L1_ct36, L1_ct43, L1_ct33, ofSC, mulC, quoC, sclC, rootC, iv2C, ivoC, enc2, L1_ct13, L1_fn13, L1_lo13, v13, L1_ct23, L1_fn23, L1_lo23, v23, L1_ct35, L1_fn35, L1_lo35, v35, L1_ct24, L1_fn24, v24, go_sem, reduceIte]); (try simp only [t_all, forall_const, ne_eq, implies_true, Nat.reduceAdd, Nat.reduceLeDiff, reduceCtorEq, Nat.reduceEqDiff]))))
    all_goals first
      | exact fun hc => ⟨by decide, by decide, ans_cor (hN hc), fun hh => absurd trivial hh⟩
      | exact fun hc => ans_cor (hY hc)
  · exact h.1.elim
end Go.Proofs.Ytijadllhfgajlaa
set_option linter.all false
namespace Go.Proofs.Ytijadllhfgajlaa
open Go Go.Vx
theorem bisL_rng {t : Int → Bool} : ∀ (f : Nat) (a b : Int), a < b → a ≤ bisL f t a b ∧ bisL f t a b < b
  | 0, a, b, h => ⟨Int.le_refl _, h⟩
  | f + 1, a, b, h => by
    rw [bisL]
    split
    · split
      · have := bisL_rng (t := t) f (a + (b - a) / 2) b (by omega); omega
      · have := bisL_rng (t := t) f a (a + (b - a) / 2) (by omega); omega
    · exact ⟨Int.le_refl _, h⟩
theorem prod_rng (s : Int) (l : List (Int × Int)) (den : Int) : 0 ≤ (prodF s l den).1 ∧ (prodF s l den).1 ≤ 1000000000000 := by
  unfold prodF
  split
  · exact ⟨Int.le_refl _, by decide⟩
  · have := bisL_rng (t := isF (l ++ [(s, den)]) den) 64 0 1000000000001 (by decide)
    simp only; omega
theorem psp_rng (s : Int) (l : List (Int × Int)) (den : Int) : 0 ≤ (pspF s l den).1 ∧ (pspF s l den).1 ≤ (pspF s l den).2 ∧ (pspF s l den).2 ≤ 1000000000001 := by
  obtain ⟨h0, h1⟩ := prod_rng s l den
  unfold pspF
  split
  · exact ⟨h0, Int.le_refl _, by simp only; omega⟩
  · rw [IntWalk.i64_in _ (by omega)]
    simp only; omega
theorem speed_rng (t : Int) : 0 ≤ (speedF t).1.1 ∧ (speedF t).1.1 ≤ (speedF t).1.2 ∧ (speedF t).1.2 ≤ 1000000000001 := by
  unfold speedF
  split
  · exact psp_rng _ _ _
  · decide
theorem parts_rng (b : Bdy) : 0 ≤ partsF b ∧ partsF b ≤ 100000 := by unfold partsF; split <;> decide
theorem way_e0 (b : Bdy) (t : Int) : (wayF b t).2 = 0 := by
  obtain ⟨h0, h1, h2⟩ := speed_rng t
  obtain ⟨p0, p1⟩ := parts_rng b
  exact scl_e0 h0 h1 (by omega) p0 p1 (by decide) (by decide)
theorem way_is (b : Bdy) (t : Int) : 0 ≤ (wayF b t).1.1 ∧ (wayF b t).1.1 ≤ (wayF b t).1.2 ∧ (wayF b t).1.2 ≤ 1000000000001 * 500 := by
  obtain ⟨h0, h1, h2⟩ := speed_rng t
  obtain ⟨p0, p1⟩ := parts_rng b
  have e := (scl_1 p0 (way_e0 b t)).1
  have e : (wayF b t).1 = ((speedF t).1.1 * partsF b, (speedF t).1.2 * partsF b) := e
  rw [e]
  have hp : partsF b ≤ 500 := by unfold partsF; split <;> decide
  exact ⟨Int.mul_nonneg h0 p0, Int.mul_le_mul_of_nonneg_right h1 p0, mul_le' h2 hp (by omega) (by decide)⟩
theorem quo_e0 {a b : Iv} (h0 : 0 ≤ a.1) (h1 : a.1 ≤ a.2) (h2 : a.2 ≤ 4000000000000000) (k0 : 1 ≤ b.1) (k1 : b.1 ≤ b.2) (k2 : b.2 ≤ 4000000000000000) : (quoF a b).2 = 0 := by
  have q : ∀ x d : Int, 1 ≤ d → 0 ≤ x → x ≤ 400000000000000000 → rndB (x / d) = (x / d, true) ∧ rndB (-((-x) / d)) = (-((-x) / d), true) := fun x d hd hx hx1 => by
    have m1 : x / d ≤ x := Int.ediv_le_self _ hx
    have m0 : 0 ≤ x / d := Int.ediv_nonneg hx (by omega)
    have m2 : -x ≤ (-x) / d := by
      rw [Int.le_ediv_iff_mul_le (by omega)]
      have : x * 1 ≤ x * d := Int.mul_le_mul_of_nonneg_left hd hx
      rw [Int.neg_mul]; omega
    have m3 : (-x) / d ≤ 0 := Int.ediv_nonpos_of_nonpos_of_neg (by omega) (by omega)
    exact ⟨rndB_is (by omega) (by omega), rndB_is (by omega) (by omega)⟩
  rw [quoF, if_neg (by rw [okE2 (by omega) h1 (by omega) (by omega) k1 (by omega)]; decide), if_neg (by omega), if_neg (by omega)]
  unfold divPos rndF rndT
  rw [if_neg (show ¬ a.1 < 0 by omega), if_neg (show ¬ a.2 < 0 by omega)]
  simp only [if_true, Bool.false_eq_true, if_false]
  rw [(q a.1 b.2 (by omega) h0 (by omega)).1, (q a.2 b.1 k0 (by omega) (by omega)).2]
  rfl
end Go.Proofs.Ytijadllhfgajlaa
