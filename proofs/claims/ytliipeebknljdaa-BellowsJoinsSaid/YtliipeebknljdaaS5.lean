/- Bellows in plain Lean: what the laws without the reference ask for. -/
import Derived.Test.YtliipeebknljdaaS4
set_option linter.all false
namespace Go.Proofs.Ytliipeebknljdaa
open Go Go.Vx

theorem run_err {b : Bel} {l : List Iv} : (runF b l).2 = askF b l := by
  unfold runF; split
  · rfl
  · rename_i h; exact (Classical.byContradiction fun h0 => h (fun h1 => h0 h1.symm))
theorem giv_err {b : Bel} {l : List Iv} : (givF b l).2 = askF b l := by
  unfold givF; split
  · rfl
  · rename_i h; exact (Classical.byContradiction fun h0 => h (fun h1 => h0 h1.symm))
theorem fails_err {b : Bel} {l : List Iv} : (failsF b l).2.2 = askF b l := by
  unfold failsF; split
  · rfl
  · rename_i h; exact (Classical.byContradiction fun h0 => h (fun h1 => h0 h1.symm))
theorem run_is {b : Bel} {l : List Iv} (h : askF b l = 0) : runF b l = (runL b l, 0) := by rw [runF, if_neg (by rw [h]; simp)]
theorem giv_is {b : Bel} {l : List Iv} (h : askF b l = 0) : givF b l = (givL b l, 0) := by rw [givF, if_neg (by rw [h]; simp)]
theorem fails_is {b : Bel} {l : List Iv} (h : askF b l = 0) : failsF b l = (failF b b.il true l b.st, failF b b.ih false l b.st, 0) := by rw [failsF, if_neg (by rw [h]; simp)]

theorem fail_none {b : Bel} {n : Int} {w : Bool} {l : List Iv} {v : Int} (h : failF b n w l v < 0) : failF b n w l v = -1 := by
  unfold failF at *
  split at h
  · omega
  · rename_i hn; rw [if_neg hn]

/-- What Need says. -/
theorem need_law {b : Bel} {l : List Iv} (h : askF b l = 0) :
    (needF b l = (0, 4) ∧ 0 ≤ failF b b.il true l b.st) ∨
    (∃ m : Nat, needF b l = ((m : Int), 0) ∧ (m : Int) ≤ b.hi ∧ (failF b b.il true l b.st < 0 ↔ (m : Int) ≤ b.st) ∧ failF { b with st := (m : Int) } b.il true l (m : Int) = -1 ∧ (0 < m → 0 ≤ failF { b with st := ((m - 1 : Nat) : Int) } b.il true l ((m - 1 : Nat) : Int))) := by
  obtain ⟨hb, h1000, hd⟩ := ask_ok h
  have hbo := bel_ok hb
  obtain ⟨s, hs⟩ : ∃ s : Nat, b.st = (s : Int) := ⟨b.st.toNat, by omega⟩
  obtain ⟨_, a2, a3, a4⟩ := leastF_spec (f := okAt b l) (b.hi.toNat + 1) 0
  change needN b l ≤ b.hi.toNat + 1 + 0 at a2
  change ∀ j, 0 ≤ j → j < needN b l → _ at a3
  change needN b l < b.hi.toNat + 1 + 0 → okAt b l (needN b l) = true at a4
  have hst : failF b b.il true l b.st < 0 ↔ okAt b l s = true := by rw [okAt, decide_eq_true_eq, ← hs]
  by_cases c : b.hi < (needN b l : Int)
  · left
    refine ⟨by rw [needF, if_neg (by rw [h]; simp), if_pos c], ?_⟩
    have := a3 s (by omega) (by omega)
    have := mt hst.1 (by rw [this]; simp)
    omega
  · right
    refine ⟨needN b l, by rw [needF, if_neg (by rw [h]; simp), if_neg c], by omega, ?_, ?_, fun h0 => ?_⟩
    · rw [hst]
      constructor
      · intro hk
        refine Classical.byContradiction fun hlt => ?_
        rw [a3 s (by omega) (by omega)] at hk; cases hk
      · intro hle
        exact okAt_mono h (by omega) (by omega) (a4 (by omega))
    · have := a4 (by omega)
      rw [okAt, decide_eq_true_eq] at this
      exact fail_none this
    · have := a3 (needN b l - 1) (by omega) (by omega)
      have := of_decide_eq_false this
      omega

end Go.Proofs.Ytliipeebknljdaa
