/- Trackers in plain Lean: what the laws on rising and on products ask for. -/
import Derived.Test.YtmhlinndhmdjlaaS4
set_option linter.all false
namespace Go.Proofs.Ytmhlinndhmdjlaa
open Go

theorem asked_of {l : List Part} {p t u k : Int} (h : checkF l p t = 0) (hu : 0 ≤ u ∧ u ≤ 100) (hk : 0 ≤ k ∧ k ≤ 50000) : askedF l p t u k = 0 := by
  rw [askedF, if_neg (by rw [h]; simp), if_neg]
  rintro (h | h | h)
  · omega
  · omega
  · simp [inF] at h; omega

theorem trav_num {l : List Part} {p t u k : Int} (h : checkF l p t = 0) (hu : 0 ≤ u ∧ u ≤ 100) (hk : 0 ≤ k ∧ k ≤ 50000) :
    travLo l p t u k = (travelR (adjL t u l) ⟨k, 1⟩).num / (travelR (adjL t u l) ⟨k, 1⟩).den ∧ travHi l p t u k = ((travelR (adjL t u l) ⟨k, 1⟩).num + (travelR (adjL t u l) ⟨k, 1⟩).den - 1) / (travelR (adjL t u l) ⟨k, 1⟩).den ∧
      0 < (travelR (adjL t u l) ⟨k, 1⟩).den ∧ 0 ≤ (travelR (adjL t u l) ⟨k, 1⟩).num ∧ Sm l.length (travelR (adjL t u l) ⟨k, 1⟩) ∧ l.length ≤ 8 := by
  obtain ⟨e, s, h8⟩ := tq_ok h hu (key := k) ⟨hk.1, by omega⟩
  obtain ⟨_, e2, e3⟩ := iv_eq s h8
  rw [travLo, travHi, if_pos (asked_of h hu hk), if_pos (asked_of h hu hk), e2, e3, ← e]
  exact ⟨rfl, rfl, s.d0, s.n0, s, h8⟩

theorem trav_key {l : List Part} {p t u k j : Int} (h : checkF l p t = 0) (hu : 0 ≤ u ∧ u ≤ 100) (hk : 0 ≤ k) (hkj : k ≤ j) (hj : j ≤ 50000) :
    travLo l p t u k ≤ travLo l p t u j ∧ travHi l p t u k ≤ travHi l p t u j := by
  obtain ⟨h1, h2, _, h3⟩ := valid h
  obtain ⟨a1, a2, a3, a4, _⟩ := trav_num h hu (k := k) ⟨hk, by omega⟩
  obtain ⟨b1, b2, b3, b4, _⟩ := trav_num h hu (k := j) ⟨by omega, hj⟩
  obtain ⟨e1, e2⟩ := travel_mono (l := adjL t u l) (q := ⟨k, 1⟩) (q' := ⟨j, 1⟩) (adjL_ok h3 h2 hu) rfl hkj
  rw [a1, a2, b1, b2, ← e1]
  exact ⟨Int.ediv_le_ediv a3 e2, Int.ediv_le_ediv a3 (by omega)⟩

theorem trav_turn {l : List Part} {p t u v k : Int} (h : checkF l p t = 0) (hu : 0 ≤ u) (huv : u ≤ v) (hv : v ≤ 100) (hk : 0 ≤ k ∧ k ≤ 50000) :
    travLo l p t u k ≤ travLo l p t v k ∧ travHi l p t u k ≤ travHi l p t v k := by
  obtain ⟨h1, h2, _, h3⟩ := valid h
  obtain ⟨a1, a2, a3, a4, _⟩ := trav_num h ⟨hu, by omega⟩ hk
  obtain ⟨b1, b2, b3, b4, _⟩ := trav_num h ⟨by omega, hv⟩ hk
  obtain ⟨e1, e2⟩ := travel_turns (l := l) (q := ⟨k, 1⟩) h3 h2 hu huv hv Int.zero_lt_one
  rw [a1, a2, b1, b2, ← e1]
  exact ⟨Int.ediv_le_ediv a3 e2, Int.ediv_le_ediv a3 (by omega)⟩

theorem travel_zero : ∀ {l : List Part} {q : Q}, (∀ p ∈ l, PartR p) → 0 < q.den → q.num = 0 → (travelR l q).num = 0
  | [], _, _, _, h => h
  | p :: l, q, hp, hd, h => by
    obtain ⟨a, b, c, d, e, f, g, hh⟩ := hp p List.mem_cons_self
    refine travel_zero (l := l) (fun x hx => hp x (List.mem_cons_of_mem _ hx)) (Int.mul_pos hd (by omega)) ?_
    have : 0 ≤ p.play * q.den := Int.mul_nonneg e (Int.le_of_lt hd)
    simp only [timesR, lessR, h]
    rw [Int.max_eq_left (by omega), Int.zero_mul]

theorem trav_zero {l : List Part} {p t u : Int} (h : checkF l p t = 0) (hu : 0 ≤ u ∧ u ≤ 100) : travLo l p t u 0 = 0 ∧ travHi l p t u 0 = 0 := by
  obtain ⟨h1, h2, _, h3⟩ := valid h
  obtain ⟨a1, a2, a3, a4, _⟩ := trav_num h hu (k := 0) ⟨by omega, by omega⟩
  rw [a1, a2, travel_zero (adjL_ok h3 h2 hu) Int.zero_lt_one rfl]
  exact ⟨by simp, Int.ediv_eq_zero_of_lt (by omega) (by omega)⟩

theorem trav_near {l : List Part} {p t u k : Int} (h : checkF l p t = 0) (hu : 0 ≤ u ∧ u ≤ 100) (hk : 0 ≤ k ∧ k ≤ 50000) :
    travLo l p t u k ≤ travHi l p t u k ∧ travHi l p t u k ≤ travLo l p t u k + 1 ∧ 0 ≤ travLo l p t u k ∧ travLo l p t u k ≤ 77396705280000 := by
  obtain ⟨a1, a2, a3, a4, s, h8⟩ := trav_num h hu hk
  rw [a1, a2]
  have h9 := nb h8
  have h10 := s.n1
  refine ⟨Int.ediv_le_ediv a3 (by omega), ?_, Int.ediv_nonneg a4 (Int.le_of_lt a3), Int.le_trans (Int.ediv_le_self _ a4) (by omega)⟩
  have e : ∀ a b : Int, 0 < b → (a + b) / b = a / b + 1 := fun a b hb => by rw [Int.add_ediv_of_dvd_right (Int.dvd_refl b), Int.ediv_self (by omega)]
  rw [← e _ _ a3]
  exact Int.ediv_le_ediv a3 (by omega)

theorem trav_enough {l : List Part} {p t u k y : Int} (h : checkF l p t = 0) (hu : 0 ≤ u ∧ u ≤ 100) (hk : 0 ≤ k ∧ k ≤ 50000) (hy : 0 ≤ y ∧ y ≤ 50000) : y ≤ travLo l p t u k ↔ enoughF l t u k y = true := by
  rw [← lo_iff h hu ⟨hk.1, by omega⟩ hy, travLo, if_pos (asked_of h hu hk)]

theorem need_ok {l : List Part} {p t u y : Int} (h : checkF l p t = 0) (hu : 0 ≤ u ∧ u ≤ 100) (hy : 0 ≤ y ∧ y ≤ 50000) :
    ((needF l p t u y).2 = 0 ∧ 0 ≤ (needF l p t u y).1 ∧ (needF l p t u y).1 ≤ 50000 ∧ y ≤ travLo l p t u (needF l p t u y).1 ∧ (0 < (needF l p t u y).1 → travLo l p t u ((needF l p t u y).1 - 1) < y)) ∨
    ((needF l p t u y).2 = 7 ∧ travLo l p t u 50000 < y) := by
  obtain ⟨m, h1, h2, h3, h4⟩ := need_spec (asked_of h hu hy)
  by_cases hm : 50000 < m
  · rw [h4, if_pos hm]
    refine .inr ⟨rfl, ?_⟩
    have := h2 50000 (by omega) hm (by omega)
    have := mt (trav_enough h hu (k := 50000) ⟨by omega, by omega⟩ hy).1 (by rw [this]; simp)
    omega
  · rw [h4, if_neg hm]
    refine .inl ⟨rfl, h1, by simpa using hm, (trav_enough h hu ⟨h1, by omega⟩ hy).2 (h3 m h1 (Int.le_refl _) (by omega)), fun h0 => ?_⟩
    simp only at h0 ⊢
    have := h2 (m - 1) (by omega) (by omega) (by omega)
    have := mt (trav_enough h hu (k := m - 1) ⟨by omega, by omega⟩ hy).1 (by rw [this]; simp)
    omega

theorem reg_one {c : Chain} {x y : Int} (h : chkF c = 0) (hx : 0 ≤ x ∧ x ≤ 50000) (hy : 0 ≤ y ∧ y ≤ 50000) :
    (∃ n : Nat, n ≤ 100 ∧ regF [c] x y = ([(n : Int)], 0) ∧ y ≤ travLo c.parts c.pluck c.turn n x ∧ (0 < n → travLo c.parts c.pluck c.turn ((n : Int) - 1) x < y)) ∨ (regF [c] x y = ([], 7) ∧ travLo c.parts c.pluck c.turn 100 x < y) := by
  have hw : wholeF [c] [x, y] = 0 := by
    have h0 : rwholeF [c] = 0 := by simp [rwholeF, firstE, h]
    rw [wholeF, h0, if_neg (by simp), if_pos]
    simp [inF]; omega
  have hk : checkF c.parts c.pluck c.turn = 0 := h
  rw [regF, if_neg (by rw [hw]; simp)]
  obtain ⟨_, s1, s2, s3⟩ := leastF_spec (f := fun n => enoughF c.parts c.turn (n : Int) x y) 101 0
  change turnsF c x y ≤ 101 + 0 at s1
  change ∀ j, 0 ≤ j → j < turnsF c x y → _ at s2
  change turnsF c x y < 101 + 0 → enoughF c.parts c.turn (turnsF c x y : Int) x y = true at s3
  by_cases hn : turnsF c x y ≤ 100
  · rw [if_pos (by simpa using hn)]
    refine .inl ⟨_, hn, rfl, (trav_enough hk ⟨by omega, by omega⟩ hx hy).2 (s3 (by omega)), fun h0 => ?_⟩
    have := s2 (turnsF c x y - 1) (by omega) (by omega)
    simp only [show ((turnsF c x y - 1 : Nat) : Int) = (turnsF c x y : Int) - 1 by omega] at this
    have := mt (trav_enough hk (u := (turnsF c x y : Int) - 1) ⟨by omega, by omega⟩ hx hy).1 (by rw [this]; simp)
    omega
  · rw [if_neg (by simpa using hn)]
    refine .inr ⟨rfl, ?_⟩
    have := s2 100 (by omega) (by omega)
    have := mt (trav_enough hk (u := 100) ⟨by omega, by omega⟩ hx hy).1 (by simpa using this)
    omega

end Go.Proofs.Ytmhlinndhmdjlaa
