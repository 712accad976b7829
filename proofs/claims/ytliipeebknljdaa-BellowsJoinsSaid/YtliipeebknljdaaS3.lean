/- Bellows in plain Lean: what the lists hold. -/
import Derived.Test.YtliipeebknljdaaS2
set_option linter.all false
namespace Go.Proofs.Ytliipeebknljdaa
open Go Go.Vx

theorem tick_eq {b : Bel} {n v d : Int} (h : Fit b n) (h0 : 0 ≤ v) (h1 : v ≤ b.hi) (hd : 0 ≤ d) (hd1 : d ≤ 4000000000) :
    (if w6 (v + inflow b n v) < d then ((0 : Int), w6 (v + inflow b n v), true) else (w6 (w6 (v + inflow b n v) - d), d, false)) = (max (w6 (hasF b n v - d)) 0, min (hasF b n v) d, decide (hasF b n v < d)) := by
  obtain ⟨a1, a2, a3⟩ := has_ok h h0 h1
  obtain ⟨e1, e2, e3⟩ := next_ok h h0 h1 hd hd1
  have := h.h1; have := h.lo0; have := h.lh
  rw [a3, e1]
  by_cases c : hasF b n v < d
  · rw [if_pos c, decide_eq_true c, Int.min_eq_left (by omega), Int.max_eq_right (by omega)]
  · rw [if_neg c, decide_eq_false c, Int.min_eq_right (by omega), Int.max_eq_left (by omega), w6_in (by omega) (by omega)]

theorem run_get {b : Bel} {l : List Iv} {i : Nat} (h : i < l.length) : (runL b l).getD i default = (volAt b b.il true (l.take (i + 1)) b.st, volAt b b.ih false (l.take (i + 1)) b.st) := by
  simp [runL, List.getD_eq_getElem?_getD, h]
theorem run_len {b : Bel} {l : List Iv} : (runL b l).length = l.length := by simp [runL]
theorem giv_get {b : Bel} {l : List Iv} {i : Nat} (h : i < l.length) : (givL b l).getD i default = (min (hasF b b.il (volAt b b.il true (l.take i) b.st)) (l.getD i default).1, min (hasF b b.ih (volAt b b.ih false (l.take i) b.st)) (l.getD i default).2) := by
  simp [givL, List.getD_eq_getElem?_getD, h]
theorem giv_len {b : Bel} {l : List Iv} : (givL b l).length = l.length := by simp [givL]

/-- The first tick in which a course fails, of the first ones; -1: none. -/
def failT (b : Bel) (n : Int) (w : Bool) (l : List Iv) (v : Int) (i : Nat) : Int := if leastF (failAt b n w l v) i 0 < i then (leastF (failAt b n w l v) i 0 : Int) else -1
theorem failT_succ {b : Bel} {n : Int} {w : Bool} {l : List Iv} {v : Int} {i : Nat} : failT b n w l v (i + 1) = if (failAt b n w l v i && decide (failT b n w l v i < 0)) = true then (i : Int) else failT b n w l v i := by
  obtain ⟨a1, a2, a3, a4⟩ := leastF_spec (f := failAt b n w l v) i 0
  unfold failT
  by_cases c : leastF (failAt b n w l v) i 0 < i
  · have e : leastF (failAt b n w l v) (i + 1) 0 = leastF (failAt b n w l v) i 0 := leastF_eq (fun j hj => a3 j (by omega) hj) (by omega) (fun _ => a4 (by omega))
    rw [e, if_pos c, if_pos (by omega), if_neg (by simp)]
  · have e0 : leastF (failAt b n w l v) i 0 = i := by omega
    rw [if_neg c]
    cases hf : failAt b n w l v i with
    | true =>
      have e : leastF (failAt b n w l v) (i + 1) 0 = i := leastF_eq (fun j hj => a3 j (by omega) (by omega)) (by omega) (fun _ => hf)
      rw [e, if_pos (by omega), if_pos (by simp)]
    | false =>
      have e : leastF (failAt b n w l v) (i + 1) 0 = i + 1 := leastF_eq (fun j hj => by
        rcases Nat.lt_or_ge j i with h' | h'
        · exact a3 j (by omega) (by omega)
        · obtain rfl : j = i := by omega
          exact hf) (by omega) (fun h => by omega)
      rw [e, if_neg (by omega), if_neg (by simp)]
theorem failT_all {b : Bel} {n : Int} {w : Bool} {l : List Iv} {v : Int} : failT b n w l v l.length = failF b n w l v := rfl

end Go.Proofs.Ytliipeebknljdaa
