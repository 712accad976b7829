/- Bellows in plain Lean: nothing wraps; ticks. -/
import Derived.Test.YtliipeebknljdaaS
set_option linter.all false
namespace Go.Proofs.Ytliipeebknljdaa
open Go Go.Vx

theorem bel_ok {b : Bel} (h : belE b = 0) : 0 ≤ b.lo ∧ b.lo < b.hi ∧ b.hi ≤ 4000000000 ∧ 0 ≤ b.st ∧ b.st ≤ b.hi ∧ 0 ≤ b.il ∧ b.il ≤ b.ih ∧ b.ih ≤ 1000000000 ∧ b.ih ≤ b.hi - b.lo := by
  unfold belE at h
  split at h
  · rename_i hok
    simp only [belOk, Bool.and_eq_true, decide_eq_true_eq] at hok
    obtain ⟨⟨⟨⟨⟨h1, h2⟩, h3⟩, h4⟩, h5⟩, ⟨⟨⟨h6, h7⟩, h8⟩, h9⟩⟩ := hok
    have hle : b.il ≤ b.ih := by
      unfold ivE at h6
      split at h6
      · split at h6
        · rename_i h10; simpa using h10
        · cases h6
      · cases h6
    exact ⟨h1, h2, h3, h4, h5, h7, hle, h8, h9⟩
  · cases h

theorem bel_is {b : Bel} (h : belE b ≠ 0) : belE b = 2 := by
  unfold belE at h ⊢
  split
  · rename_i h0; rw [if_pos h0] at h; exact absurd rfl h
  · rfl

theorem ask_ok {b : Bel} {l : List Iv} (h : askF b l = 0) : belE b = 0 ∧ l.length ≤ 1000 ∧ ∀ i, i < l.length → 0 ≤ (l.getD i default).1 ∧ (l.getD i default).1 ≤ (l.getD i default).2 ∧ (l.getD i default).2 ≤ 4000000000 := by
  unfold askF at h
  split at h
  · rename_i h0; exact absurd h h0
  · rename_i h0
    split at h
    · cases h
    · split at h
      · cases h
      · rename_i h1 h2
        refine ⟨Classical.byContradiction h0, by omega, fun i hi => ?_⟩
        have h3 : wrongF (l.getD i default) = false := by
          cases hw : wrongF (l.getD i default) with
          | false => rfl
          | true => exact absurd (List.any_eq_true.2 ⟨_, getD_mem hi, hw⟩) h2
        simp only [wrongF, Bool.or_eq_false_iff, Bool.not_eq_false', decide_eq_true_eq, decide_eq_false_iff_not] at h3
        obtain ⟨⟨h4, h5⟩, h6⟩ := h3
        have hle : (l.getD i default).1 ≤ (l.getD i default).2 := by
          unfold ivE at h4
          split at h4
          · split at h4
            · rename_i h10; simpa using h10
            · cases h4
          · cases h4
        omega

/-- A course's inflow fits. -/
structure Fit (b : Bel) (n : Int) : Prop where
  lo0 : 0 ≤ b.lo
  lh : b.lo < b.hi
  h1 : b.hi ≤ 4000000000
  n0 : 0 ≤ n
  n1 : n ≤ 1000000000
  n2 : n ≤ b.hi - b.lo

theorem fit_il {b : Bel} (h : belE b = 0) : Fit b b.il := by have := bel_ok h; exact ⟨by omega, by omega, by omega, by omega, by omega, by omega⟩
theorem fit_ih {b : Bel} (h : belE b = 0) : Fit b b.ih := by have := bel_ok h; exact ⟨by omega, by omega, by omega, by omega, by omega, by omega⟩
theorem fit_in {b : Bel} (h : belE b = 0) (w : Bool) : Fit b (inOf b w) := by cases w; exact fit_ih h; exact fit_il h
theorem fit_ne {b : Bel} {n : Int} (h : Fit b n) : w6 (b.hi - b.lo) ≠ 0 := by
  have := h.lo0; have := h.lh; have := h.h1
  rw [w6_in (by omega) (by omega)]; omega

/-- Without wraps. -/
def flow (b : Bel) (n v : Int) : Int := if v ≤ b.lo then n else if b.hi ≤ v then 0 else n * (b.hi - v) / (b.hi - b.lo)

theorem flow_ok {b : Bel} {n v : Int} (h : Fit b n) (h0 : 0 ≤ v) (h1 : v ≤ b.hi) : 0 ≤ flow b n v ∧ v + flow b n v ≤ b.hi ∧ inflow b n v = flow b n v ∧ hasF b n v = v + flow b n v := by
  obtain ⟨a1, a2, a3, a4, a5, a6⟩ := h
  unfold flow inflow hasF
  by_cases c1 : v ≤ b.lo
  · simp only [if_pos c1]
    refine ⟨a4, by omega, trivial, w6_in (by omega) (by omega)⟩
  · simp only [if_neg c1]
    by_cases c2 : b.hi ≤ v
    · simp only [if_pos c2]
      exact ⟨Int.le_refl _, by omega, trivial, by omega⟩
    · simp only [if_neg c2]
      have e1 : 0 ≤ n * (b.hi - v) := Int.mul_nonneg a4 (by omega)
      have e2 : n * (b.hi - v) ≤ 1000000000 * 4000000000 := mul_le' a5 (by omega) a4 (by omega)
      have e3 : n * (b.hi - v) ≤ (b.hi - v) * (b.hi - b.lo) := by rw [Int.mul_comm (b.hi - v)]; exact Int.mul_le_mul_of_nonneg_right a6 (by omega)
      have e4 : n * (b.hi - v) / (b.hi - b.lo) ≤ b.hi - v := Int.ediv_le_of_le_mul (by omega) e3
      have e5 : 0 ≤ n * (b.hi - v) / (b.hi - b.lo) := Int.ediv_nonneg e1 (by omega)
      rw [w6_in (x := b.hi - v) (by omega) (by omega), w6_in (x := b.hi - b.lo) (by omega) (by omega), w6_in (x := n * (b.hi - v)) (by omega) (by omega), Int.tdiv_eq_ediv_of_nonneg e1, w6_in (x := n * (b.hi - v) / (b.hi - b.lo)) (by omega) (by omega)]
      exact ⟨e5, by omega, rfl, w6_in (by omega) (by omega)⟩

theorem has_ok {b : Bel} {n v : Int} (h : Fit b n) (h0 : 0 ≤ v) (h1 : v ≤ b.hi) : v ≤ hasF b n v ∧ hasF b n v ≤ b.hi ∧ w6 (v + inflow b n v) = hasF b n v := by
  obtain ⟨a1, a2, a3, a4⟩ := flow_ok h h0 h1
  have := h.h1
  rw [a3, a4]
  exact ⟨by omega, a2, w6_in (by omega) (by omega)⟩

theorem next_ok {b : Bel} {n v d : Int} (h : Fit b n) (h0 : 0 ≤ v) (h1 : v ≤ b.hi) (hd : 0 ≤ d) (hd1 : d ≤ 4000000000) : max (w6 (hasF b n v - d)) 0 = max (hasF b n v - d) 0 ∧ 0 ≤ max (hasF b n v - d) 0 ∧ max (hasF b n v - d) 0 ≤ b.hi := by
  obtain ⟨a1, a2, _⟩ := has_ok h h0 h1
  have := h.h1; have := h.lo0; have := h.lh
  rw [w6_in (by omega) (by omega)]
  exact ⟨rfl, by omega, by omega⟩

theorem side_ok {w : Bool} {d : Iv} (h : 0 ≤ d.1 ∧ d.1 ≤ d.2 ∧ d.2 ≤ 4000000000) : 0 ≤ side w d ∧ side w d ≤ 4000000000 := by
  cases w
  · exact ⟨h.1, by have := h.2; show d.1 ≤ _; omega⟩
  · exact ⟨by have := h.2; show 0 ≤ d.2; omega, h.2.2⟩

theorem vol_ok {b : Bel} {n : Int} {w : Bool} {l : List Iv} {v : Int} (h : Fit b n) (h0 : 0 ≤ v) (h1 : v ≤ b.hi) (hl : ∀ i, i < l.length → 0 ≤ (l.getD i default).1 ∧ (l.getD i default).1 ≤ (l.getD i default).2 ∧ (l.getD i default).2 ≤ 4000000000) : ∀ i, i ≤ l.length → 0 ≤ volAt b n w (l.take i) v ∧ volAt b n w (l.take i) v ≤ b.hi
  | 0, _ => by simp [volAt]; omega
  | i + 1, hi => by
    obtain ⟨a1, a2⟩ := vol_ok (w := w) h h0 h1 hl i (by omega)
    rw [vol_succ (by omega)]
    obtain ⟨s1, s2⟩ := side_ok (w := w) (hl i (by omega))
    obtain ⟨e1, e2, e3⟩ := next_ok (d := side w (l.getD i default)) h a1 a2 s1 s2
    rw [e1]; exact ⟨e2, e3⟩

end Go.Proofs.Ytliipeebknljdaa
