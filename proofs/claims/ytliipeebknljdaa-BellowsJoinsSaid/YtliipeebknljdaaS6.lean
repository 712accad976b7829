/- Bellows in plain Lean: every course stays between the worst and the best. -/
import Derived.Test.YtliipeebknljdaaS5
set_option linter.all false
namespace Go.Proofs.Ytliipeebknljdaa
open Go Go.Vx

/-- A number of an interval, counted. -/
def memF (a : Iv) (n : Int) : Int :=
  if n = 4294967295 ∨ w6 (w6 (a.2 - a.1) + 1) < 1 then a.2 else w6 (a.1 + (n.tmod (w6 (w6 (a.2 - a.1) + 1))))

theorem mem_ok {a : Iv} {n : Int} (h0 : 0 ≤ a.1) (h1 : a.1 ≤ a.2) (h2 : a.2 ≤ 4000000000) (hn : 0 ≤ n ∧ n ≤ 4294967295) : a.1 ≤ memF a n ∧ memF a n ≤ a.2 := by
  unfold memF
  rw [w6_in (x := a.2 - a.1) (by omega) (by omega), w6_in (x := a.2 - a.1 + 1) (by omega) (by omega)]
  split
  · exact ⟨h1, Int.le_refl _⟩
  · have e := Int.tmod_eq_emod_of_nonneg hn.1 (b := a.2 - a.1 + 1)
    have e1 := Int.emod_nonneg n (by omega : a.2 - a.1 + 1 ≠ 0)
    have e2 := Int.emod_lt_of_pos n (by omega : 0 < a.2 - a.1 + 1)
    rw [e, w6_in (by omega) (by omega)]
    omega

theorem flow_n {b : Bel} {n m v : Int} (h : Fit b n) (hm : Fit b m) (hnm : n ≤ m) (h0 : 0 ≤ v) (h1 : v ≤ b.hi) : flow b n v ≤ flow b m v := by
  obtain ⟨a1, a2, a3, a4, a5, a6⟩ := h
  unfold flow
  by_cases c1 : v ≤ b.lo
  · rw [if_pos c1, if_pos c1]; exact hnm
  · rw [if_neg c1, if_neg c1]
    by_cases c2 : b.hi ≤ v
    · rw [if_pos c2, if_pos c2]; omega
    · rw [if_neg c2, if_neg c2]
      exact Int.ediv_le_ediv (by omega) (Int.mul_le_mul_of_nonneg_right hnm (by omega))

theorem has_both {b : Bel} {n m v u : Int} (h : Fit b n) (hm : Fit b m) (hnm : n ≤ m) (h0 : 0 ≤ v) (hvu : v ≤ u) (h1 : u ≤ b.hi) : hasF b n v ≤ hasF b m u := by
  refine Int.le_trans (has_mono h h0 hvu h1) ?_
  rw [(flow_ok h (by omega) h1).2.2.2, (flow_ok hm (by omega) h1).2.2.2]
  have := flow_n h hm hnm (by omega : 0 ≤ u) h1
  omega

/-- A course that takes what it likes of In and of the demands. -/
def crsV (b : Bel) (ns ds : Nat → Int) : Nat → Int
  | 0 => b.st
  | i + 1 => (tickR b (crsV b ns ds i) (ns i) (ds i)).1
where
  tickR (b : Bel) (v n d : Int) : Int × Int × Bool := (max (w6 (hasF b n v - d)) 0, min (hasF b n v) d, decide (hasF b n v < d))

theorem crs_in {b : Bel} {l : List Iv} {ns ds : Nat → Int} (h : askF b l = 0) (hn : ∀ i, i < l.length → b.il ≤ ns i ∧ ns i ≤ b.ih) (hds : ∀ i, i < l.length → (l.getD i default).1 ≤ ds i ∧ ds i ≤ (l.getD i default).2) :
    ∀ i, i ≤ l.length → 0 ≤ crsV b ns ds i ∧ crsV b ns ds i ≤ b.hi ∧ volAt b b.il true (l.take i) b.st ≤ crsV b ns ds i ∧ crsV b ns ds i ≤ volAt b b.ih false (l.take i) b.st
  | 0, _ => by
    have := bel_ok (ask_ok h).1
    exact ⟨this.2.2.2.1, this.2.2.2.2.1, Int.le_refl _, Int.le_refl _⟩
  | i + 1, hi => by
    obtain ⟨hb, h1000, hd⟩ := ask_ok h
    have hbo := bel_ok hb
    obtain ⟨a1, a2, a3, a4⟩ := crs_in h hn hds i (by omega)
    obtain ⟨u1, u2⟩ := vol_ok (w := true) (fit_il hb) hbo.2.2.2.1 hbo.2.2.2.2.1 hd i (by omega)
    obtain ⟨u3, u4⟩ := vol_ok (w := false) (fit_ih hb) hbo.2.2.2.1 hbo.2.2.2.2.1 hd i (by omega)
    have hn' := hn i (by omega)
    have hd' := hds i (by omega)
    have hdi := hd i (by omega)
    have f : Fit b (ns i) := ⟨by omega, by omega, by omega, by omega, by omega, by omega⟩
    obtain ⟨e1, e2, e3⟩ := next_ok (d := ds i) f a1 a2 (by omega) (by omega)
    obtain ⟨w1, w2, w3⟩ := next_ok (d := side true (l.getD i default)) (fit_il hb) u1 u2 (side_ok hdi).1 (side_ok hdi).2
    obtain ⟨b1, b2, b3⟩ := next_ok (d := side false (l.getD i default)) (fit_ih hb) u3 u4 (side_ok hdi).1 (side_ok hdi).2
    have m1 := has_both (fit_il hb) f hn'.1 u1 a3 a2
    have m2 := has_both f (fit_ih hb) hn'.2 a1 a4 u4
    rw [vol_succ (by omega), vol_succ (by omega), w1, b1]
    have e0 : crsV b ns ds (i + 1) = max (w6 (hasF b (ns i) (crsV b ns ds i) - ds i)) 0 := rfl
    rw [e0, e1]
    simp only [side, if_true, if_false, Bool.false_eq_true]
    omega

theorem fail_hit {b : Bel} {n : Int} {w : Bool} {l : List Iv} {v : Int} {i : Nat} (hi : i < l.length) (hf : failAt b n w l v i = true) : 0 ≤ failF b n w l v ∧ failF b n w l v ≤ i := by
  obtain ⟨a1, a2, a3, a4⟩ := leastF_spec (f := failAt b n w l v) l.length 0
  change ∀ j, 0 ≤ j → j < failN b n w l v → _ at a3
  have hle : failN b n w l v ≤ i := by
    refine Classical.byContradiction fun h => ?_
    rw [a3 i (by omega) (by omega)] at hf; cases hf
  rw [failF, if_pos (by omega)]
  omega
theorem fail_is {b : Bel} {n : Int} {w : Bool} {l : List Iv} {v : Int} {i : Nat} (h : failF b n w l v = (i : Int)) : i < l.length ∧ failAt b n w l v i = true := by
  obtain ⟨a1, a2, a3, a4⟩ := leastF_spec (f := failAt b n w l v) l.length 0
  unfold failF at h
  split at h
  · rename_i hn
    have e : failN b n w l v = i := by omega
    rw [← e]
    exact ⟨hn, a4 (by simpa [failN] using hn)⟩
  · omega
theorem fail_rng {b : Bel} {n : Int} {w : Bool} {l : List Iv} {v : Int} : -1 ≤ failF b n w l v ∧ failF b n w l v < l.length := by
  unfold failF
  split <;> omega

/-- A step of a course. -/
theorem inside {b : Bel} {l : List Iv} {ns ds : Nat → Int} (h : askF b l = 0) (hn : ∀ i, i < l.length → b.il ≤ ns i ∧ ns i ≤ b.ih) (hds : ∀ i, i < l.length → (l.getD i default).1 ≤ ds i ∧ ds i ≤ (l.getD i default).2) {i : Nat} (hi : i < l.length) :
    Fit b (ns i) ∧ (0 ≤ ds i ∧ ds i ≤ 4000000000) ∧ (0 ≤ crsV b ns ds i ∧ crsV b ns ds i ≤ b.hi) ∧
    (hasF b (ns i) (crsV b ns ds i) < ds i → 0 ≤ failF b b.il true l b.st ∧ failF b b.il true l b.st ≤ i) ∧
    (volAt b b.il true (l.take (i + 1)) b.st ≤ crsV b ns ds (i + 1) ∧ crsV b ns ds (i + 1) ≤ volAt b b.ih false (l.take (i + 1)) b.st ∧ volAt b b.ih false (l.take (i + 1)) b.st ≤ b.hi) ∧
    (((givL b l).getD i default).1 ≤ min (hasF b (ns i) (crsV b ns ds i)) (ds i) ∧ min (hasF b (ns i) (crsV b ns ds i)) (ds i) ≤ ((givL b l).getD i default).2) ∧
    (failF b b.ih false l b.st = (i : Int) → hasF b (ns i) (crsV b ns ds i) < ds i) := by
  obtain ⟨hb, h1000, hd⟩ := ask_ok h
  have hbo := bel_ok hb
  obtain ⟨a1, a2, a3, a4⟩ := crs_in h hn hds i (by omega)
  obtain ⟨_, _, c3, c4⟩ := crs_in h hn hds (i + 1) (by omega)
  obtain ⟨u1, u2⟩ := vol_ok (w := true) (fit_il hb) hbo.2.2.2.1 hbo.2.2.2.2.1 hd i (by omega)
  obtain ⟨u3, u4⟩ := vol_ok (w := false) (fit_ih hb) hbo.2.2.2.1 hbo.2.2.2.2.1 hd i (by omega)
  obtain ⟨_, u6⟩ := vol_ok (w := false) (fit_ih hb) hbo.2.2.2.1 hbo.2.2.2.2.1 hd (i + 1) (by omega)
  have hn' := hn i hi
  have hd' := hds i hi
  have hdi := hd i hi
  have f : Fit b (ns i) := ⟨by omega, by omega, by omega, by omega, by omega, by omega⟩
  have m1 := has_both (fit_il hb) f hn'.1 u1 a3 a2
  have m2 := has_both f (fit_ih hb) hn'.2 a1 a4 u4
  refine ⟨f, ⟨by omega, by omega⟩, ⟨a1, a2⟩, fun hf => ?_, ⟨c3, c4, u6⟩, ?_, fun hf => ?_⟩
  · refine fail_hit hi (decide_eq_true ?_)
    show _ < (l.getD i default).2
    omega
  · rw [giv_get hi]
    simp only
    omega
  · have := of_decide_eq_true (fail_is hf).2
    simp only [side, if_false, Bool.false_eq_true] at this
    omega

theorem may_must {b : Bel} {l : List Iv} (h : askF b l = 0) (h0 : 0 ≤ failF b b.ih false l b.st) : 0 ≤ failF b b.il true l b.st ∧ failF b b.il true l b.st ≤ failF b b.ih false l b.st := by
  obtain ⟨hb, h1000, hd⟩ := ask_ok h
  have hbo := bel_ok hb
  obtain ⟨i, hi⟩ : ∃ i : Nat, failF b b.ih false l b.st = (i : Int) := ⟨(failF b b.ih false l b.st).toNat, by omega⟩
  have hil := (fail_is hi).1
  have := inside (ns := fun _ => b.il) (ds := fun i => (l.getD i default).2) h (fun _ _ => ⟨Int.le_refl _, by omega⟩) (fun i hi => ⟨(hd i hi).2.1, Int.le_refl _⟩) hil
  obtain ⟨_, _, _, g1, _, _, g2⟩ := this
  have := g1 (g2 hi)
  omega

end Go.Proofs.Ytliipeebknljdaa
