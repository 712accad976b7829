/- Bellows in plain Lean: a fuller reservoir stays the fuller one. -/
import Derived.Test.YtliipeebknljdaaS3
set_option linter.all false
namespace Go.Proofs.Ytliipeebknljdaa
open Go Go.Vx

theorem flow_mono {b : Bel} {n v u : Int} (h : Fit b n) (h0 : 0 ≤ v) (hvu : v ≤ u) (h1 : u ≤ b.hi) : v + flow b n v ≤ u + flow b n u := by
  obtain ⟨a1, a2, a3, a4, a5, a6⟩ := h
  have key : ∀ x y : Int, x ≤ y → y ≤ b.hi → x + n * (b.hi - x) / (b.hi - b.lo) ≤ y + n * (b.hi - y) / (b.hi - b.lo) := by
    intro x y hxy hy
    have e1 : n * (b.hi - x) = n * (b.hi - y) + n * (y - x) := by rw [← Int.mul_add]; congr 1; omega
    have e2 : n * (y - x) ≤ (b.hi - b.lo) * (y - x) := Int.mul_le_mul_of_nonneg_right a6 (by omega)
    have e3 : n * (b.hi - x) / (b.hi - b.lo) ≤ (n * (b.hi - y) + (b.hi - b.lo) * (y - x)) / (b.hi - b.lo) := Int.ediv_le_ediv (by omega) (by omega)
    rw [Int.add_mul_ediv_left _ _ (by omega)] at e3
    omega
  have at_lo : n * (b.hi - b.lo) / (b.hi - b.lo) = n := Int.mul_ediv_cancel _ (by omega)
  have at_hi : n * (b.hi - b.hi) / (b.hi - b.lo) = 0 := by rw [Int.sub_self, Int.mul_zero, Int.zero_ediv]
  unfold flow
  by_cases c1 : v ≤ b.lo
  · rw [if_pos c1]
    by_cases c2 : u ≤ b.lo
    · rw [if_pos c2]; omega
    · rw [if_neg c2]
      have := key b.lo u (by omega) h1
      rw [at_lo] at this
      by_cases c3 : b.hi ≤ u
      · rw [if_pos c3]; have := key b.lo b.hi (by omega) (by omega); rw [at_lo, at_hi] at this; omega
      · rw [if_neg c3]; omega
  · rw [if_neg c1, if_neg (by omega : ¬ u ≤ b.lo)]
    by_cases c2 : b.hi ≤ v
    · rw [if_pos c2, if_pos (by omega)]; omega
    · rw [if_neg c2]
      by_cases c3 : b.hi ≤ u
      · rw [if_pos c3]; have := key v b.hi (by omega) (by omega); rw [at_hi] at this; omega
      · rw [if_neg c3]; exact key v u hvu h1

theorem has_mono {b : Bel} {n v u : Int} (h : Fit b n) (h0 : 0 ≤ v) (hvu : v ≤ u) (h1 : u ≤ b.hi) : hasF b n v ≤ hasF b n u := by
  rw [(flow_ok h h0 (by omega)).2.2.2, (flow_ok h (by omega) h1).2.2.2]
  exact flow_mono h h0 hvu h1

theorem vol_mono {b : Bel} {n : Int} {w : Bool} {l : List Iv} {v u : Int} (h : Fit b n) (h0 : 0 ≤ v) (hvu : v ≤ u) (h1 : u ≤ b.hi) (hl : ∀ i, i < l.length → 0 ≤ (l.getD i default).1 ∧ (l.getD i default).1 ≤ (l.getD i default).2 ∧ (l.getD i default).2 ≤ 4000000000) : ∀ i, i ≤ l.length → volAt b n w (l.take i) v ≤ volAt b n w (l.take i) u
  | 0, _ => by simpa [volAt] using hvu
  | i + 1, hi => by
    have ih := vol_mono (w := w) h h0 hvu h1 hl i (by omega)
    obtain ⟨a1, a2⟩ := vol_ok (w := w) h h0 (by omega) hl i (by omega)
    obtain ⟨a3, a4⟩ := vol_ok (w := w) (v := u) h (by omega) h1 hl i (by omega)
    obtain ⟨s1, s2⟩ := side_ok (w := w) (hl i (by omega))
    rw [vol_succ (by omega), vol_succ (by omega), (next_ok h a1 a2 s1 s2).1, (next_ok h a3 a4 s1 s2).1]
    have := has_mono h a1 ih a4
    omega

theorem fail_mono {b : Bel} {n : Int} {w : Bool} {l : List Iv} {v u : Int} (h : Fit b n) (h0 : 0 ≤ v) (hvu : v ≤ u) (h1 : u ≤ b.hi) (hl : ∀ i, i < l.length → 0 ≤ (l.getD i default).1 ∧ (l.getD i default).1 ≤ (l.getD i default).2 ∧ (l.getD i default).2 ≤ 4000000000) {i : Nat} (hi : i < l.length) (hf : failAt b n w l v i = false) : failAt b n w l u i = false := by
  obtain ⟨a1, a2⟩ := vol_ok (w := w) h h0 (by omega) hl i (by omega)
  obtain ⟨a3, a4⟩ := vol_ok (w := w) (v := u) h (by omega) h1 hl i (by omega)
  have := has_mono h a1 (vol_mono (w := w) h h0 hvu h1 hl i (by omega)) a4
  have := of_decide_eq_false hf
  exact decide_eq_false (by omega)

theorem fail_neg {b : Bel} {n : Int} {w : Bool} {l : List Iv} {v : Int} : failF b n w l v < 0 ↔ ∀ i, i < l.length → failAt b n w l v i = false := by
  obtain ⟨a1, a2, a3, a4⟩ := leastF_spec (f := failAt b n w l v) l.length 0
  unfold failF failN
  constructor
  · intro h i hi
    split at h
    · omega
    · rename_i hn
      exact a3 i (by omega) (by omega)
  · intro h
    split
    · rename_i hn
      rw [h _ hn] at a4; exact absurd (a4 (by omega)) (by simp)
    · omega

/-- Nothing of a reservoir but its bounds matters. -/
theorem has_st {b : Bel} {n v s : Int} : hasF { b with st := s } n v = hasF b n v := rfl
theorem vol_st {b : Bel} {n v s : Int} {w : Bool} {l : List Iv} : volAt { b with st := s } n w l v = volAt b n w l v := rfl

/-- No course fails from this start. -/
def okAt (b : Bel) (l : List Iv) (v : Nat) : Bool := decide (failF { b with st := (v : Int) } b.il true l (v : Int) < 0)

theorem okAt_iff {b : Bel} {l : List Iv} {v : Nat} : okAt b l v = true ↔ ∀ i, i < l.length → failAt b b.il true l (v : Int) i = false := by
  rw [okAt, decide_eq_true_eq, fail_neg]; rfl

theorem okAt_mono {b : Bel} {l : List Iv} (h : askF b l = 0) {v u : Nat} (hvu : v ≤ u) (hu : (u : Int) ≤ b.hi) (hv : okAt b l v = true) : okAt b l u = true := by
  obtain ⟨hb, h1000, hd⟩ := ask_ok h
  rw [okAt_iff] at hv ⊢
  exact fun i hi => fail_mono (fit_il hb) (by omega) (by omega) hu hd hi (hv i hi)

theorem bel_st {b : Bel} {s : Int} (h : belE b = 0) (h0 : 0 ≤ s) (h1 : s ≤ b.hi) : belE { b with st := s } = 0 := by
  unfold belE at h ⊢
  split at h
  · rename_i hok
    rw [if_pos]
    simp only [belOk, Bool.and_eq_true, decide_eq_true_eq] at hok ⊢
    obtain ⟨⟨⟨⟨⟨a, b'⟩, c⟩, d⟩, e⟩, f⟩ := hok
    exact ⟨⟨⟨⟨⟨a, b'⟩, c⟩, h0⟩, h1⟩, f⟩
  · cases h

theorem ask_st {b : Bel} {l : List Iv} {s : Int} (h : askF b l = 0) (h0 : 0 ≤ s) (h1 : s ≤ b.hi) : askF { b with st := s } l = 0 := by
  have hb := (ask_ok h).1
  have hb2 := bel_st hb h0 h1
  unfold askF at h ⊢
  rw [if_neg (by rw [hb2]; simp)]
  rw [if_neg (by rw [hb]; simp)] at h
  exact h

theorem fails_ok {b : Bel} {l : List Iv} {m : Nat} (h : askF b l = 0) (h1 : (m : Int) ≤ b.hi) : (failsF { b with st := (m : Int) } l).1 < 0 ↔ okAt b l m = true := by
  have h0 := ask_st (s := (m : Int)) h (by omega) h1
  rw [failsF, if_neg (by rw [h0]; simp), okAt, decide_eq_true_eq]

end Go.Proofs.Ytliipeebknljdaa
