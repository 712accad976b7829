/- Scales: what is taken for a diameter, by the signs; diameters fall, in plain Lean. -/
import Derived.Test.YtmgfmkbniaepcaaMgX2e
import Derived.Test.YtmgfmkbniaepcaaMgX2d
set_option linter.all false
namespace Go.Proofs.Ytmgfmkbniaepcaa
open Go Go.Vx
set_option maxRecDepth 100000
theorem bisL_rng {t : Int → Bool} : ∀ (f : Nat) (a b : Int), a < b → a ≤ bisL f t a b ∧ bisL f t a b < b
  | 0, a, b, h => ⟨Int.le_refl _, h⟩
  | f + 1, a, b, h => by
    rw [bisL]
    split
    · split
      · have := bisL_rng (t := t) f (a + (b - a) / 2) b (by omega); omega
      · have := bisL_rng (t := t) f a (a + (b - a) / 2) (by omega); omega
    · exact ⟨Int.le_refl _, h⟩
theorem bisL_spec {t : Int → Bool} : ∀ (f : Nat) (a b : Int), a < b → b - a ≤ 2 ^ f → (bisL f t a b = a ∨ t (bisL f t a b) = true) ∧ (bisL f t a b + 1 = b ∨ t (bisL f t a b + 1) = false)
  | 0, a, b, h, hb => by
    rw [bisL]
    exact ⟨Or.inl rfl, Or.inl (by simp at hb; omega)⟩
  | f + 1, a, b, h, hb => by
    have hb2 : b - a ≤ 2 ^ f * 2 := by rw [← Int.pow_succ]; exact hb
    rw [bisL]
    split
    · split
      · rename_i h1 h2
        obtain ⟨i1, i2⟩ := bisL_spec (t := t) f (a + (b - a) / 2) b (by omega) (by omega)
        refine ⟨?_, i2⟩
        rcases i1 with i1 | i1
        · right; rw [i1]; exact h2
        · exact Or.inr i1
      · rename_i h1 h2
        obtain ⟨i1, i2⟩ := bisL_spec (t := t) f a (a + (b - a) / 2) (by omega) (by omega)
        refine ⟨i1, ?_⟩
        rcases i2 with i2 | i2
        · right; rw [i2]; simpa using h2
        · exact Or.inr i2
    · exact ⟨Or.inl rfl, Or.inl (by omega)⟩
def scL (m num den k : Nat) : List (Int × Int) := [(2, -(num : Int)), ((m : Int), (den : Int)), ((k : Int), -(den : Int))]
theorem sc_up (m num den k : Nat) (hd : 1 ≤ den) : upP (scL m num den k) = m ^ den := by
  have e : (if -(num : Int) < 0 then 1 else (2 : Int).toNat ^ (-(num : Int)).toNat) = 1 := by
    split
    · rfl
    · rw [show (-(num : Int)).toNat = 0 by omega, Nat.pow_zero]
  unfold scL upP upP upP upP
  simp only
  rw [e, if_neg (by omega), if_pos (by omega), Int.toNat_natCast, Int.toNat_natCast, Nat.one_mul, Nat.mul_one]
theorem sc_dn (m num den k : Nat) (hd : 1 ≤ den) : dnP (scL m num den k) = 2 ^ num * k ^ den := by
  have e : (if -(num : Int) < 0 then (2 : Int).toNat ^ (-(-(num : Int))).toNat else 1) = 2 ^ num := by
    split
    · rw [Int.neg_neg]; rfl
    · rw [show num = 0 by omega, Nat.pow_zero]
  unfold scL dnP dnP dnP dnP
  simp only
  rw [e, if_neg (by omega), if_pos (by omega), Int.neg_neg, Int.toNat_natCast, Int.toNat_natCast, Nat.one_mul, Nat.mul_one]
theorem sc_ok {m num den k : Nat} (hm : 1 ≤ m ∧ m ≤ 500000) (hn : num ≤ 1000000000) (hd : 1 ≤ den ∧ den ≤ 1000000) (hk : 1 ≤ k ∧ k ≤ 1000000000001) : ∀ x, x ∈ scL m num den k → okT x := by
  intro x hx
  simp only [scL, List.mem_cons, List.not_mem_nil, or_false] at hx
  unfold okT
  rcases hx with rfl | rfl | rfl <;> simp only <;> omega
def wtS (n : Nat) : Nat := if n = 2 then 0 else 1
theorem isPow_2 : isPow ((2 : Nat) : Int) = true := by decide
theorem lN_2 (p : Nat) : (lN 2 p).2 = (lN 2 p).1 := by
  unfold lN
  rw [if_pos isPow_2]
theorem sc_E (m num den k : Nat) : upS wtS (scL m num den k) + dnS wtS (scL m num den k) ≤ 2 * den := by
  have w : ∀ n, wtS n ≤ 1 := fun n => by unfold wtS; split <;> omega
  have w2 : wtS 2 = 0 := rfl
  have hz : (-(den : Int)).toNat = 0 := by omega
  have a := Nat.mul_le_mul_right den (w m)
  have b := Nat.mul_le_mul_right den (w k)
  unfold scL upS upS upS upS dnS dnS dnS dnS
  simp only [Int.toNat_natCast, Int.neg_neg, show (2 : Int).toNat = 2 from rfl, w2, hz, Nat.mul_zero, Nat.zero_mul, ite_self]
  repeat' split
  all_goals omega
theorem sc_w {J m num den k : Nat} (h1 : narrow J m) (h2 : narrow J k) : ∀ x, x ∈ scL m num den k → (lN x.1.toNat 2048).2 ≤ (lN x.1.toNat 2048).1 + wtS x.1.toNat * 2 ^ (2048 - J) := by
  have key : ∀ n, narrow J n → (lN n 2048).2 ≤ (lN n 2048).1 + wtS n * 2 ^ (2048 - J) := fun n h => by
    unfold wtS
    split
    · rename_i e
      subst e
      rw [lN_2]; exact Nat.le_add_right _ _
    · rw [Nat.one_mul]; exact h
  intro x hx
  simp only [scL, List.mem_cons, List.not_mem_nil, or_false] at hx
  rcases hx with rfl | rfl | rfl
  · show (lN 2 2048).2 ≤ _
    rw [lN_2]; exact Nat.le_add_right _ _
  · exact key m h1
  · exact key k h2
theorem sc_step {J m num den k : Nat} (hJ : J ≤ 2048) (hm : 1 ≤ m ∧ m ≤ 500000) (hn : num ≤ 1000000000) (hd : 1 ≤ den ∧ den ≤ 1000000) (hk : 1 ≤ k ∧ k ≤ 1000000000001) (hs : 0 ≤ signF (scL m num den k)) (h1 : narrow J m) (h2 : narrow J k) :
    (2 ^ num * k ^ den) ^ (2 ^ J) ≤ (m ^ den) ^ (2 ^ J) * 2 ^ (2 * den) := by
  have hl := sc_ok hm hn hd hk
  obtain ⟨g1, g2, g3, g4⟩ := sign_sound hl (by simp [scL])
  rw [sc_up _ _ _ _ hd.1, sc_dn _ _ _ _ hd.1] at g1
  have le1 : ∀ {a b : Nat}, a ≤ b → a ^ (2 ^ J) ≤ b ^ (2 ^ J) * 2 ^ (2 * den) := fun {a b} h =>
    Nat.le_trans (Nat.pow_le_pow_left h _) (Nat.le_mul_of_pos_right _ (p2_pos _))
  rcases g4 with h4 | h4 | h4
  · exact le1 (Nat.le_of_lt (g1 h4))
  · rw [h4] at hs; exact absurd hs (by decide)
  · rcases g3 h4 with h5 | h5
    · have := one_sound hl (by simp [scL]) h5
      rw [sc_up _ _ _ _ hd.1, sc_dn _ _ _ _ hd.1] at this
      exact le1 (Nat.le_of_eq this.symm)
    · have := und_near hJ hl (sc_w h1 h2) h5
      rw [sc_up _ _ _ _ hd.1, sc_dn _ _ _ _ hd.1] at this
      exact Nat.le_trans this (Nat.mul_le_mul_left _ (Nat.pow_le_pow_right (by decide) (sc_E m num den k)))
theorem sc_small {m num den k : Nat} (hm : 1 ≤ m ∧ m ≤ 500000) (hn : num ≤ 1000000000) (hd : 1 ≤ den ∧ den ≤ 1000000) (hk : 1 ≤ k ∧ k ≤ 1000000000001) (hs : 0 ≤ signF (scL m num den k)) : k ≤ 2000000 := by
  have h := sc_step (J := 0) (by decide) hm hn hd hk hs (narrow_0 _) (narrow_0 _)
  rw [Nat.pow_zero, Nat.pow_one, Nat.pow_one, Nat.pow_mul, ← Nat.mul_pow] at h
  have h2 : k ^ den ≤ (m * 2 ^ 2) ^ den := Nat.le_trans (Nat.le_mul_of_pos_left _ (p2_pos num)) h
  have := (Nat.pow_le_pow_iff_left (by omega)).1 h2
  omega
def QS : Nat := 2 ^ 14
theorem QS_is : QS = 2 ^ 14 := rfl
theorem QS_num : QS = 16384 := rfl
theorem sc_near {m num den k : Nat} (hm : 1 ≤ m ∧ m ≤ 500000) (hn : num ≤ 1000000000) (hd : 1 ≤ den ∧ den ≤ 1000000) (hk : 1 ≤ k ∧ k ≤ 1000000000001) (hs : 0 ≤ signF (scL m num den k)) :
    (2 ^ num * k ^ den) ^ QS ≤ (m ^ den) ^ QS * 2 ^ (2 * den) := by
  have h := sc_step (J := 14) (by decide) hm hn hd hk hs (narrow14 hm.1 (Nat.lt_of_le_of_lt hm.2 (by decide))) (narrow14 hk.1 (Nat.lt_of_le_of_lt (sc_small hm hn hd hk hs) (by decide)))
  rw [← QS_is] at h
  exact h
theorem sc_neg {m num den k : Nat} (hm : 1 ≤ m ∧ m ≤ 500000) (hn : num ≤ 1000000000) (hd : 1 ≤ den ∧ den ≤ 1000000) (hk : 1 ≤ k ∧ k ≤ 1000000000001) (hs : ¬ 0 ≤ signF (scL m num den k)) : m ^ den < 2 ^ num * k ^ den := by
  obtain ⟨_, h2, _, h4⟩ := sign_sound (sc_ok hm hn hd hk) (by simp [scL])
  rw [sc_up _ _ _ _ hd.1, sc_dn _ _ _ _ hd.1] at h2
  exact h2 (by omega)
theorem rootS_is {m num den : Nat} (hm : 1 ≤ m ∧ m ≤ 500000) (hn : num ≤ 1000000000) (hd : 1 ≤ den ∧ den ≤ 1000000) : ∃ k : Nat, k ≤ 2000000 ∧ (rootS (m : Int) (num : Int) (den : Int)).1 = (k : Int) ∧
    (1 ≤ k → (2 ^ num * k ^ den) ^ QS ≤ (m ^ den) ^ QS * 2 ^ (2 * den)) ∧ m ^ den < 2 ^ num * (k + 1) ^ den ∧ ((rootS (m : Int) (num : Int) (den : Int)).2 = true → 1 ≤ k ∧ m ^ den = 2 ^ num * k ^ den) := by
  have hat : ∀ k : Nat, atF ([((2 : Int), -(num : Int))] ++ [((m : Int), (den : Int))]) (den : Int) (k : Int) = scL m num den k := fun k => rfl
  obtain ⟨f, hf⟩ : ∃ f, f = isF ([((2 : Int), -(num : Int))] ++ [((m : Int), (den : Int))]) (den : Int) := ⟨_, rfl⟩
  have hfk : ∀ k : Nat, f (k : Int) = true ↔ (k = 0 ∨ 0 ≤ signF (scL m num den k)) := fun k => by
    rw [hf, isF, hat, Bool.or_eq_true, decide_eq_true_eq, decide_eq_true_eq]; omega
  have htop : f 1000000000001 = false := by
    cases hc : f 1000000000001 with
    | false => rfl
    | true =>
      rcases (hfk 1000000000001).1 hc with h | h
      · cases h
      · have := sc_small hm hn hd ⟨by decide, by decide⟩ h
        omega
  have e1 : (rootS (m : Int) (num : Int) (den : Int)).1 = bisL 64 f 0 1000000000001 ∧ (rootS (m : Int) (num : Int) (den : Int)).2 = (decide (0 < bisL 64 f 0 1000000000001) && oneF (atF ([((2 : Int), -(num : Int))] ++ [((m : Int), (den : Int))]) (den : Int) (bisL 64 f 0 1000000000001))) := by
    unfold rootS prodF
    rw [← hf, if_neg (by rw [htop]; decide)]
    exact ⟨rfl, rfl⟩
  obtain ⟨s1, s2⟩ := bisL_spec (t := f) 64 0 1000000000001 (by decide) (by decide)
  have hr := bisL_rng (t := f) 64 0 1000000000001 (by decide)
  obtain ⟨e1, e2⟩ := e1
  rw [e1, e2]
  generalize bisL 64 f 0 1000000000001 = b at *
  obtain ⟨k, rfl⟩ : ∃ k : Nat, b = (k : Int) := ⟨b.toNat, by omega⟩
  have hs : 1 ≤ k → 0 ≤ signF (scL m num den k) := fun hk => by
    rcases s1 with h | h
    · omega
    · rcases (hfk k).1 h with h | h
      · omega
      · exact h
  have hk2 : k ≤ 2000000 := by
    rcases Nat.eq_zero_or_pos k with h0 | h0
    · omega
    · exact sc_small hm hn hd ⟨h0, by omega⟩ (hs h0)
  refine ⟨k, hk2, rfl, fun hk => sc_near hm hn hd ⟨hk, by omega⟩ (hs hk), ?_, fun hx => ?_⟩
  · rcases s2 with s2 | s2
    · omega
    · refine sc_neg hm hn hd (by omega) fun hh => ?_
      have := (hfk (k + 1)).2 (Or.inr hh)
      rw [Int.natCast_add, show ((1 : Nat) : Int) = 1 from rfl, s2] at this
      cases this
  · rw [Bool.and_eq_true, decide_eq_true_eq] at hx
    have hk1 : 1 ≤ k := by omega
    refine ⟨hk1, ?_⟩
    rw [hat] at hx
    have := one_sound (sc_ok hm hn hd ⟨hk1, by omega⟩) (by simp [scL]) hx.2
    rw [sc_up _ _ _ _ hd.1, sc_dn _ _ _ _ hd.1] at this
    exact this
theorem sc_core {m k Q n1 d1 n2 d2 : Nat} (hk : 1 ≤ k) (hB : m ^ d1 ≤ 2 ^ n1 * k ^ d1) (hA : (2 ^ n2 * k ^ d2) ^ Q ≤ (m ^ d2) ^ Q * 2 ^ (2 * d2)) : n2 * d1 * Q ≤ n1 * d2 * Q + 2 * (d1 * d2) := by
  have a := Nat.pow_le_pow_left hB (d2 * Q)
  have b := Nat.pow_le_pow_left hA d1
  have em : (m ^ d1) ^ (d2 * Q) = m ^ (d1 * d2 * Q) := by rw [← Nat.pow_mul, Nat.mul_assoc]
  have ek : (2 ^ n1 * k ^ d1) ^ (d2 * Q) = 2 ^ (n1 * d2 * Q) * k ^ (d1 * d2 * Q) := by rw [Nat.mul_pow, ← Nat.pow_mul, ← Nat.pow_mul, Nat.mul_assoc, Nat.mul_assoc]
  have fk : ((2 ^ n2 * k ^ d2) ^ Q) ^ d1 = 2 ^ (n2 * d1 * Q) * k ^ (d1 * d2 * Q) := by
    rw [← Nat.pow_mul, Nat.mul_pow, ← Nat.pow_mul, ← Nat.pow_mul]
    congr 2
    · rw [Nat.mul_comm Q, Nat.mul_assoc]
    · rw [Nat.mul_comm d1 d2, Nat.mul_comm Q, Nat.mul_assoc]
  have fm : ((m ^ d2) ^ Q * 2 ^ (2 * d2)) ^ d1 = m ^ (d1 * d2 * Q) * 2 ^ (2 * (d1 * d2)) := by
    rw [Nat.mul_pow, ← Nat.pow_mul, ← Nat.pow_mul, ← Nat.pow_mul]
    congr 2
    · rw [Nat.mul_comm d1 d2, Nat.mul_right_comm, Nat.mul_assoc]
    · rw [Nat.mul_assoc, Nat.mul_comm d2]
  rw [em, ek] at a
  rw [fk, fm] at b
  have c := Nat.le_trans b (Nat.mul_le_mul_right (2 ^ (2 * (d1 * d2))) a)
  have hk0 : 0 < k ^ (d1 * d2 * Q) := Nat.pow_pos hk
  have e : 2 ^ (n1 * d2 * Q) * k ^ (d1 * d2 * Q) * 2 ^ (2 * (d1 * d2)) = 2 ^ (n1 * d2 * Q + 2 * (d1 * d2)) * k ^ (d1 * d2 * Q) := by rw [Nat.pow_add, Nat.mul_right_comm]
  rw [e] at c
  exact (Nat.pow_le_pow_iff_right (by decide)).1 (Nat.le_of_mul_le_mul_right c hk0)
theorem rootS_fall {m n1 d1 n2 d2 : Nat} (hm : 1 ≤ m ∧ m ≤ 500000) (hn1 : n1 ≤ 1000000000) (hd1 : 1 ≤ d1 ∧ d1 ≤ 1000000) (hn2 : n2 ≤ 1000000000) (hd2 : 1 ≤ d2 ∧ d2 ≤ 1000000) (h : d1 * d2 + n1 * d2 * 4096 ≤ n2 * d1 * 4096) :
    (rootS (m : Int) (n2 : Int) (d2 : Int)).1 ≤ (rootS (m : Int) (n1 : Int) (d1 : Int)).1 ∧ ((rootS (m : Int) (n2 : Int) (d2 : Int)).1 = (rootS (m : Int) (n1 : Int) (d1 : Int)).1 → (rootS (m : Int) (n1 : Int) (d1 : Int)).2 = false) := by
  obtain ⟨k, k1, k2, k3, k4, k5⟩ := rootS_is hm hn1 hd1
  obtain ⟨j, j1, j2, j3, j4, j5⟩ := rootS_is hm hn2 hd2
  rw [k2, j2]
  have hpos : 1 * 1 ≤ d1 * d2 := Nat.mul_le_mul hd1.1 hd2.1
  have no : ∀ x : Nat, 1 ≤ x → m ^ d1 ≤ 2 ^ n1 * x ^ d1 → ¬ (2 ^ n2 * x ^ d2) ^ QS ≤ (m ^ d2) ^ QS * 2 ^ (2 * d2) := fun x hx hb ha => by
    have := sc_core hx hb ha
    rw [QS_num] at this
    omega
  have hle : j ≤ k := by
    refine Nat.le_of_not_lt fun hh => ?_
    refine no j (by omega) ?_ (j3 (by omega))
    exact Nat.le_trans (Nat.le_of_lt k4) (Nat.mul_le_mul_left _ (Nat.pow_le_pow_left (by omega) _))
  refine ⟨by omega, fun he => ?_⟩
  cases hx : (rootS (m : Int) (n1 : Int) (d1 : Int)).2 with
  | false => rfl
  | true =>
    exfalso
    obtain ⟨h1, h2⟩ := k5 hx
    obtain rfl : j = k := by omega
    exact no j h1 (Nat.le_of_eq h2) (j3 h1)
end Go.Proofs.Ytmgfmkbniaepcaa
set_option linter.all false
namespace Go.Proofs.Ytmgfmkbniaepcaa
open Go Go.Vx
set_option maxRecDepth 100000
set_option maxHeartbeats 4000000
def v41 : VF := { ntmps := 15, res := [.tmp 6], body :=
 (.seq (.region [u1 6 .mov [.cn (.bool false)]])
 (.seq (.region [u1 7 .mov [.tm 0],
 u1 8 .mov [.tm 1],
 u1 9 (.cmp .geq) [.tm 7, .tm 8],
 u1 10 .mov [.tm 9],
 u2 11 10 true .mov [.tm 0],
 u2 12 10 true .mov [.tm 2],
 u2 13 10 true (.cmp .leq) [.tm 11, .tm 12],
 u1 14 .and [.tm 10, .tm 13],
 u1 6 .mov [.tm 14]])
 .ret)) }
theorem v41_is : vfunc Try.prog Try.f41 = some v41 := by kernel_rfl
def v16 : VF := { ntmps := 9, res := [.tmp 2], body :=
 (.seq (.region [u1 2 .mov [.cn (.bool false)]])
 (.seq (.region [u1 3 .mov [.tm 0],
 u1 4 (.cmp .geq) [.tm 3, .cn (.int .i64 1)],
 u1 5 .mov [.tm 4],
 u2 6 5 true .mov [.tm 0],
 u2 7 5 true (.cmp .leq) [.tm 6, .cn (.int .i64 20)],
 u1 8 .and [.tm 5, .tm 7],
 u1 2 .mov [.tm 8]])
 .ret)) }
theorem v16_is : vfunc Try.prog Try.f16 = some v16 := by kernel_rfl
def v31 : VF := { ntmps := 16, res := [.tmp 4], body :=
 (.seq (.region [u1 2 .box [.tm 0],
 u1 4 .mov [.cn (.bool false)]])
 (.seq (.region [u1 5 .mov [.tm 1],
 u1 6 (.fieldAddr 2) [.tm 2],
 u1 7 (.load false 1) [.tm 6],
 u1 8 (.idxAddr 2) [.tm 7, .cn (.int .i64 0)],
 u1 9 (.fieldAddr 0) [.tm 8],
 u1 10 (.load false 1) [.tm 9],
 u1 11 (.cmp .geq) [.tm 5, .tm 10],
 u1 12 .mov [.tm 11],
 u2 13 12 true .mov [.tm 1],
 u2 14 12 true (.cmp .leq) [.tm 13, .cn (.int .i64 139)],
 u1 15 .and [.tm 12, .tm 14],
 u1 4 .mov [.tm 15]])
 .ret)) }
theorem v31_is : vfunc Try.prog Try.f31 = some v31 := by kernel_rfl
def v6 : VF := { ntmps := 16, res := [.tmp 4], body :=
 (.seq (.region [u1 2 .box [.tm 0],
 u1 4 .mov [.cn (.bool false)]])
 (.seq (.region [u1 5 .mov [.tm 1],
 u1 6 (.fieldAddr 2) [.tm 2],
 u1 7 (.load false 1) [.tm 6],
 u1 8 (.idxAddr 2) [.tm 7, .cn (.int .i64 0)],
 u1 9 (.fieldAddr 0) [.tm 8],
 u1 10 (.load false 1) [.tm 9],
 u1 11 (.cmp .geq) [.tm 5, .tm 10],
 u1 12 .mov [.tm 11],
 u2 13 12 true .mov [.tm 1],
 u2 14 12 true (.cmp .leq) [.tm 13, .cn (.int .i64 139)],
 u1 15 .and [.tm 12, .tm 14],
 u1 4 .mov [.tm 15]])
 .ret)) }
theorem v6_is : vfunc Try.prog Try.f6 = some v6 := by kernel_rfl
def v30 : VF := { ntmps := 87, res := [.tmp 2], body :=
 (.seq (.region [u1 1 .box [.tm 0],
 u1 2 .mov [.cn (.int .i64 0)]])
 (.seq (.seq (.region [u1 9 (.fieldAddr 2) [.tm 1],
 u1 10 (.load false 1) [.tm 9],
 u1 11 .len [.tm 10],
 u1 12 (.cmp .gtr) [.tm 11, .cn (.int .i64 3)]])
 (.cond (.tm 12) (.seq (.region [u1 2 .mov [.cn (.int .i64 3)]])
 .ret)
  .skip))
 (.seq (.region [u1 13 (.fieldAddr 2) [.tm 1],
 u1 14 (.load false 1) [.tm 13],
 u1 15 .len [.tm 14],
 u1 16 (.cmp .gtr) [.tm 15, .cn (.int .i64 0)],
 u1 17 .mov [.tm 16],
 u2 18 17 true (.fieldAddr 0) [.tm 1],
 u2 19 17 true (.load false 1) [.tm 18],
 u2 20 17 true (.call 41) [.tm 19, .cn (.int .i64 1000), .cn (.int .i64 500000)],
 u1 21 .and [.tm 17, .tm 20],
 u1 22 .mov [.tm 21],
 u2 23 22 true (.fieldAddr 1) [.tm 1],
 u2 24 22 true (.load false 1) [.tm 23],
 u2 25 22 true (.fieldAddr 0) [.tm 1],
 u2 26 22 true (.load false 1) [.tm 25],
 u2 27 22 true (.ari .sub) [.tm 26, .cn (.int .i64 1)],
 u2 28 22 true .min [.cn (.int .i64 50000), .tm 27],
 u2 29 22 true (.call 41) [.tm 24, .cn (.int .i64 0), .tm 28],
 u1 30 .and [.tm 22, .tm 29],
 u1 3 .mov [.tm 30]])
 (.seq (.seq (.region [u1 31 (.fieldAddr 3) [.tm 1],
 u1 32 (.load false 1) [.tm 31],
 u1 33 (.fieldAddr 4) [.tm 1],
 u1 34 (.load false 1) [.tm 33],
 u1 35 (.fieldAddr 5) [.tm 1],
 u1 36 (.load false 1) [.tm 35],
 u1 37 (.fieldAddr 6) [.tm 1],
 u1 38 (.load false 1) [.tm 37],
 u1 39 (.build [(.int .i64 0), (.int .i64 0), (.int .i64 0), (.int .i64 0)] [(0, 1), (1, 1), (2, 1), (3, 1)]) [.tm 32, .tm 34, .tm 36, .tm 38],
 u1 40 .mov [.cn (.int .i64 0)]])
 (.block 0 (.loop (.seq (.region [u1 41 (.cmp .lss) [.tm 40, .cn (.int .i64 4)]])
 (.seq (.cond (.tm 41) .skip
  (.exit 0))
 (.seq (.block 1 (.seq (.region [u1 42 (.index false 4 1) [.tm 39, .tm 40],
 u1 5 .mov [.tm 42]])
 (.region [u1 43 .mov [.tm 3],
 u1 44 .mov [.tm 43],
 u2 45 44 true .mov [.tm 5],
 u2 46 44 true (.call 41) [.tm 45, .cn (.int .i64 1), .cn (.int .i64 20)],
 u1 47 .and [.tm 44, .tm 46],
 u1 3 .mov [.tm 47]])))
 (.region [u1 48 (.ari .add) [.tm 40, .cn (.int .i64 1)],
 u1 40 .mov [.tm 48]])))))))
 (.seq (.region [u1 6 .mov [.cn (.int .i64 (-1))]])
 (.seq (.seq (.region [u1 49 (.fieldAddr 2) [.tm 1],
 u1 50 (.load false 1) [.tm 49],
 u1 51 .len [.tm 50],
 u1 52 .mov [.cn (.int .i64 0)]])
 (.block 2 (.loop (.seq (.region [u1 53 (.cmp .lss) [.tm 52, .tm 51]])
 (.seq (.cond (.tm 53) .skip
  (.exit 2))
 (.seq (.block 3 (.seq (.region [u1 54 (.idxAddr 2) [.tm 50, .tm 52],
 u1 55 (.load true 2) [.tm 54],
 u1 8 (.alloc [(.int .i64 0), (.int .i64 0)]) [],
 u0 (.store 2) [.tm 8, .tm 55]])
 (.seq (.region [u1 56 .mov [.tm 3],
 u1 57 .mov [.tm 56],
 u2 58 57 true (.fieldAddr 0) [.tm 8],
 u2 59 57 true (.load false 1) [.tm 58],
 u2 60 57 true .mov [.tm 6],
 u2 61 57 true (.cmp .gtr) [.tm 59, .tm 60],
 u1 62 .and [.tm 57, .tm 61],
 u1 63 .mov [.tm 62],
 u2 64 63 true (.fieldAddr 0) [.tm 8],
 u2 65 63 true (.load false 1) [.tm 64],
 u2 66 63 true (.cmp .leq) [.tm 65, .cn (.int .i64 139)],
 u1 67 .and [.tm 63, .tm 66],
 u1 68 .mov [.tm 67],
 u2 69 68 true (.fieldAddr 1) [.tm 8],
 u2 70 68 true (.load false 1) [.tm 69],
 u2 71 68 true (.call 41) [.tm 70, .cn (.int .i64 8), .cn (.int .i64 64)],
 u1 72 .and [.tm 68, .tm 71],
 u1 3 .mov [.tm 72]])
 (.region [u1 73 .mov [.tm 6],
 u1 74 (.fieldAddr 0) [.tm 8],
 u1 75 (.load false 1) [.tm 74],
 u1 76 .max [.tm 73, .tm 75],
 u1 6 .mov [.tm 76]]))))
 (.region [u1 77 (.ari .add) [.tm 52, .cn (.int .i64 1)],
 u1 52 .mov [.tm 77]])))))))
 (.seq (.seq (.region [u1 78 .mov [.tm 3],
 u1 79 .not [.tm 78],
 u1 80 .mov [.tm 79],
 u2 81 80 false (.fieldAddr 3) [.tm 1],
 u2 82 80 false (.load false 1) [.tm 81],
 u2 83 80 false (.fieldAddr 4) [.tm 1],
 u2 84 80 false (.load false 1) [.tm 83],
 u2 85 80 false (.cmp .geq) [.tm 82, .tm 84],
 u1 86 .or [.tm 80, .tm 85]])
 (.cond (.tm 86) (.seq (.region [u1 2 .mov [.cn (.int .i64 2)]])
 .ret)
  .skip))
 (.seq (.region [u1 2 .mov [.cn (.int .i64 0)]])
 .ret)))))))) }
theorem v30_is : vfunc Try.prog Try.f30 = some v30 := by kernel_rfl
def v5 : VF := { ntmps := 115, res := [.tmp 2], body :=
 (.seq (.region [u1 1 .box [.tm 0],
 u1 2 .mov [.cn (.int .i64 0)]])
 (.seq (.seq (.region [u1 5 (.fieldAddr 2) [.tm 1],
 u1 6 (.load false 1) [.tm 5],
 u1 7 .len [.tm 6],
 u1 8 (.cmp .gtr) [.tm 7, .cn (.int .i64 3)]])
 (.cond (.tm 8) (.seq (.region [u1 2 .mov [.cn (.int .i64 3)]])
 .ret)
  .skip))
 (.seq (.seq (.region [u1 3 .mov [.cn (.int .i64 0)]])
 (.block 0 (.loop (.seq (.seq (.region [u1 9 .mov [.tm 3],
 u1 10 (.fieldAddr 2) [.tm 1],
 u1 11 (.load false 1) [.tm 10],
 u1 12 .len [.tm 11],
 u1 13 (.cmp .lss) [.tm 9, .tm 12]])
 (.cond (.tm 13) .skip
  (.exit 0)))
 (.seq (.block 1 (.seq (.region [u1 16 (.fieldAddr 2) [.tm 1],
 u1 17 (.load false 1) [.tm 16],
 u1 18 .mov [.tm 3],
 u1 19 (.idxAddr 2) [.tm 17, .tm 18],
 u1 20 (.load true 2) [.tm 19],
 u1 4 (.alloc [(.int .i64 0), (.int .i64 0)]) [],
 u0 (.store 2) [.tm 4, .tm 20]])
 (.seq (.draw [] [w1 21 (.fieldAddr 0) [.tm 4],
 w1 22 (.load false 1) [.tm 21],
 w1 23 (.cmp .lss) [.tm 22, .cn (.int .i64 0)],
 w1 24 .mov [.tm 23],
 ⟨u2 25 24 false (.fieldAddr 0) [.tm 4], []⟩,
 ⟨u2 26 24 false (.load false 1) [.tm 25], []⟩,
 ⟨u2 27 24 false (.cmp .gtr) [.tm 26, .cn (.int .i64 139)], []⟩,
 w1 28 .or [.tm 24, .tm 27],
 w1 29 .mov [.tm 28],
 ⟨u2 30 29 false (.fieldAddr 1) [.tm 4], []⟩,
 ⟨u2 31 29 false (.load false 1) [.tm 30], []⟩,
 ⟨u2 32 29 false (.cmp .lss) [.tm 31, .cn (.int .i64 8)], []⟩,
 w1 33 .or [.tm 29, .tm 32],
 w1 34 .mov [.tm 33],
 ⟨u2 35 34 false (.fieldAddr 1) [.tm 4], []⟩,
 ⟨u2 36 34 false (.load false 1) [.tm 35], []⟩,
 ⟨u2 37 34 false (.cmp .gtr) [.tm 36, .cn (.int .i64 64)], []⟩,
 w1 38 .or [.tm 34, .tm 37],
 w1 39 .mov [.tm 38],
 ⟨u2 40 39 false .mov [.tm 3], []⟩,
 ⟨u2 41 39 false (.cmp .gtr) [.tm 40, .cn (.int .i64 0)], []⟩,
 ⟨u2 42 39 false .mov [.tm 41], []⟩,
 ⟨u2 43 42 true (.fieldAddr 2) [.tm 1], []⟩,
 ⟨u2 44 42 true (.load false 1) [.tm 43], []⟩,
 ⟨u2 45 42 true .mov [.tm 3], []⟩,
 ⟨u2 46 42 true (.ari .sub) [.tm 45, .cn (.int .i64 1)], []⟩,
 ⟨u2 47 42 true (.idxAddr 2) [.tm 44, .tm 46], []⟩,
 ⟨u2 48 42 true (.fieldAddr 0) [.tm 47], []⟩,
 ⟨u2 49 42 true (.load false 1) [.tm 48], []⟩,
 ⟨u2 50 42 true (.fieldAddr 0) [.tm 4], []⟩,
 ⟨u2 51 42 true (.load false 1) [.tm 50], []⟩,
 ⟨u2 52 42 true (.cmp .geq) [.tm 49, .tm 51], []⟩,
 ⟨u2 53 39 false .and [.tm 42, .tm 52], []⟩,
 w1 54 .or [.tm 39, .tm 53]])
 (.cond (.tm 54) (.seq (.region [u1 2 .mov [.cn (.int .i64 2)]])
 .ret)
  .skip))))
 (.region [u1 14 .mov [.tm 3],
 u1 15 (.ari .add) [.tm 14, .cn (.int .i64 1)],
 u1 3 .mov [.tm 15]]))))))
 (.seq (.seq (.region [u1 55 (.fieldAddr 2) [.tm 1],
 u1 56 (.load false 1) [.tm 55],
 u1 57 .len [.tm 56],
 u1 58 (.cmp .eql) [.tm 57, .cn (.int .i64 0)],
 u1 59 .mov [.tm 58],
 u2 60 59 false (.fieldAddr 0) [.tm 1],
 u2 61 59 false (.load false 1) [.tm 60],
 u2 62 59 false (.cmp .lss) [.tm 61, .cn (.int .i64 1000)],
 u1 63 .or [.tm 59, .tm 62],
 u1 64 .mov [.tm 63],
 u2 65 64 false (.fieldAddr 0) [.tm 1],
 u2 66 64 false (.load false 1) [.tm 65],
 u2 67 64 false (.cmp .gtr) [.tm 66, .cn (.int .i64 500000)],
 u1 68 .or [.tm 64, .tm 67],
 u1 69 .mov [.tm 68],
 u2 70 69 false (.fieldAddr 1) [.tm 1],
 u2 71 69 false (.load false 1) [.tm 70],
 u2 72 69 false (.cmp .lss) [.tm 71, .cn (.int .i64 0)],
 u1 73 .or [.tm 69, .tm 72],
 u1 74 .mov [.tm 73],
 u2 75 74 false (.fieldAddr 1) [.tm 1],
 u2 76 74 false (.load false 1) [.tm 75],
 u2 77 74 false (.cmp .gtr) [.tm 76, .cn (.int .i64 50000)],
 u1 78 .or [.tm 74, .tm 77],
 u1 79 .mov [.tm 78],
 u2 80 79 false (.fieldAddr 1) [.tm 1],
 u2 81 79 false (.load false 1) [.tm 80],
 u2 82 79 false (.fieldAddr 0) [.tm 1],
 u2 83 79 false (.load false 1) [.tm 82],
 u2 84 79 false (.cmp .geq) [.tm 81, .tm 83],
 u1 85 .or [.tm 79, .tm 84]])
 (.cond (.tm 85) (.seq (.region [u1 2 .mov [.cn (.int .i64 2)]])
 .ret)
  .skip))
 (.seq (.seq (.region [u1 86 (.fieldAddr 3) [.tm 1],
 u1 87 (.load false 1) [.tm 86],
 u1 88 (.call 16) [.tm 87],
 u1 89 .not [.tm 88],
 u1 90 .mov [.tm 89],
 u2 91 90 false (.fieldAddr 4) [.tm 1],
 u2 92 90 false (.load false 1) [.tm 91],
 u2 93 90 false (.call 16) [.tm 92],
 u2 94 90 false .not [.tm 93],
 u1 95 .or [.tm 90, .tm 94],
 u1 96 .mov [.tm 95],
 u2 97 96 false (.fieldAddr 5) [.tm 1],
 u2 98 96 false (.load false 1) [.tm 97],
 u2 99 96 false (.call 16) [.tm 98],
 u2 100 96 false .not [.tm 99],
 u1 101 .or [.tm 96, .tm 100],
 u1 102 .mov [.tm 101],
 u2 103 102 false (.fieldAddr 6) [.tm 1],
 u2 104 102 false (.load false 1) [.tm 103],
 u2 105 102 false (.call 16) [.tm 104],
 u2 106 102 false .not [.tm 105],
 u1 107 .or [.tm 102, .tm 106],
 u1 108 .mov [.tm 107],
 u2 109 108 false (.fieldAddr 3) [.tm 1],
 u2 110 108 false (.load false 1) [.tm 109],
 u2 111 108 false (.fieldAddr 4) [.tm 1],
 u2 112 108 false (.load false 1) [.tm 111],
 u2 113 108 false (.cmp .geq) [.tm 110, .tm 112],
 u1 114 .or [.tm 108, .tm 113]])
 (.cond (.tm 114) (.seq (.region [u1 2 .mov [.cn (.int .i64 2)]])
 .ret)
  .skip))
 (.seq (.region [u1 2 .mov [.cn (.int .i64 0)]])
 .ret)))))) }
theorem v5_is : vfunc Try.prog Try.f5 = some v5 := by kernel_rfl
def v20 : VF := { ntmps := 28, res := [.tmp 6], body :=
 (.seq (.region [u1 3 .box [.tm 0],
 u1 6 .mov [.cn (.int .i64 0)]])
 (.seq (.seq (.region [u1 8 (.load true 7) [.tm 3],
 u1 9 (.call 30) [.tm 8],
 u1 7 .mov [.tm 9]])
 (.seq (.region [u1 10 .mov [.tm 7],
 u1 11 (.cmp .neq) [.tm 10, .cn (.int .i64 0)]])
 (.cond (.tm 11) (.seq (.region [u1 12 .mov [.tm 7],
 u1 6 .mov [.tm 12]])
 .ret)
  .skip)))
 (.seq (.seq (.region [u1 13 (.load true 7) [.tm 3],
 u1 14 .mov [.tm 1],
 u1 15 (.call 31) [.tm 13, .tm 14],
 u1 16 .not [.tm 15],
 u1 17 .mov [.tm 16],
 u2 18 17 false (.load true 7) [.tm 3],
 u2 19 17 false .mov [.tm 2],
 u2 20 17 false (.call 31) [.tm 18, .tm 19],
 u2 21 17 false .not [.tm 20],
 u1 22 .or [.tm 17, .tm 21],
 u1 23 .mov [.tm 22],
 u2 24 23 false .mov [.tm 1],
 u2 25 23 false .mov [.tm 2],
 u2 26 23 false (.cmp .gtr) [.tm 24, .tm 25],
 u1 27 .or [.tm 23, .tm 26]])
 (.cond (.tm 27) (.seq (.region [u1 6 .mov [.cn (.int .i64 2)]])
 .ret)
  .skip))
 (.seq (.region [u1 6 .mov [.cn (.int .i64 0)]])
 .ret)))) }
theorem v20_is : vfunc Try.prog Try.f20 = some v20 := by kernel_rfl
def inSC : Ctr := { alias := false, of := fun l => match l with
  | [.int .i64 n, .int .i64 a, .int .i64 b] => .fin (.bool (inS n a b)) []
  | _ => .pre False (.fin (.bool false) []) }
def partSC : Ctr := { alias := false, of := fun l => match l with
  | [.int .i64 n] => .fin (.bool (partS n)) []
  | _ => .pre False (.fin (.bool false) []) }
def K00 : Env := { ct := fun _ => none, fn := fun _ => none, meth := fun _ _ => none }
theorem K00_ok : EnvOk Try.prog K00 := by
  refine ⟨fun f c h => ?_, fun f vf h => ?_, (fun _ _ _ h => by cases h), by kernel_rfl, (fun _ h => by cases h)⟩
  · cases h
  · cases h
theorem inS_c : inSC.ok Try.prog 41 := by
  refine contract Try.func41 v41_is K00_ok 100 inSC fun args k h => ?_
  simp only [inSC] at h
  split at h
  · rename_i n a b
    refine ⟨[.int .i64 n, .int .i64 a, .int .i64 b], by simp [leL, le], ?_⟩
    dsimp only [v41, go_sem, reduceIte]
    simp only [t_all, forall_const, ne_eq, implies_true, Nat.reduceAdd, Nat.reduceLeDiff, reduceCtorEq, Nat.reduceEqDiff]
    exact ans_bool h
  · exact h.1.elim
theorem partS_c : partSC.ok Try.prog 16 := by
  refine contract Try.func16 v16_is K00_ok 100 partSC fun args k h => ?_
  simp only [partSC] at h
  split at h
  · rename_i n
    refine ⟨[.int .i64 n], by simp [leL, le], ?_⟩
    dsimp only [v16, go_sem, reduceIte]
    simp only [t_all, forall_const, ne_eq, implies_true, Nat.reduceAdd, Nat.reduceLeDiff, reduceCtorEq, Nat.reduceEqDiff]
    exact ans_bool h
  · exact h.1.elim
def hasC : Ctr := { alias := false, of := fun l => match l with
  | [.agg [.int .i64 d, .int .i64 c, .vs _ _ n sz get, .int .i64 mn, .int .i64 md, .int .i64 cn, .int .i64 cd], .int .i64 note] =>
    .ex (List (Int × Int)) fun bs => .pre (lsP 2 enc2 n sz get bs ∧ 0 < n ∧ n ≤ 9223372036854775807) (.fin (.bool (hasS ⟨d, c, bs, mn, md, cn, cd⟩ note)) [])
  | _ => .pre False (.fin (.bool false) []) }
theorem hasS_c : hasC.ok Try.prog 31 := by
  refine contract Try.func31 v31_is K00_ok 100 hasC fun args k h => ?_
  simp only [hasC] at h
  split at h
  · rename_i d c tt z n sz get mn md cn cd note
    obtain ⟨bs, ⟨⟨rfl, rfl, hg⟩, hn0, hn⟩, h⟩ := h
    refine ⟨[.agg [.int .i64 d, .int .i64 c, .vs tt z bs.length 2 (fun k => enc2 (bs.getD k default)), .int .i64 mn, .int .i64 md, .int .i64 cn, .int .i64 cd], .int .i64 note], ⟨⟨⟨rfl, rfl⟩, ⟨rfl, rfl⟩, ⟨id, rfl, rfl, rfl, hg⟩, ⟨rfl, rfl⟩, ⟨rfl, rfl⟩, ⟨rfl, rfl⟩, ⟨rfl, rfl⟩, trivial⟩, ⟨rfl, rfl⟩, trivial⟩, ?_⟩
    dsimp only [v31, enc2, Int.toNat_zero, go_sem, reduceIte]
    simp only [t_all, forall_const, ne_eq, implies_true, Nat.reduceAdd, Nat.reduceLeDiff, reduceCtorEq, Nat.reduceEqDiff]
    refine ⟨⟨by omega, by omega⟩, ans_bool h⟩
  · exact h.1.elim
theorem rhasS_c : hasC.ok Try.prog 6 := by
  refine contract Try.func6 v6_is K00_ok 100 hasC fun args k h => ?_
  simp only [hasC] at h
  split at h
  · rename_i d c tt z n sz get mn md cn cd note
    obtain ⟨bs, ⟨⟨rfl, rfl, hg⟩, hn0, hn⟩, h⟩ := h
    refine ⟨[.agg [.int .i64 d, .int .i64 c, .vs tt z bs.length 2 (fun k => enc2 (bs.getD k default)), .int .i64 mn, .int .i64 md, .int .i64 cn, .int .i64 cd], .int .i64 note], ⟨⟨⟨rfl, rfl⟩, ⟨rfl, rfl⟩, ⟨id, rfl, rfl, rfl, hg⟩, ⟨rfl, rfl⟩, ⟨rfl, rfl⟩, ⟨rfl, rfl⟩, ⟨rfl, rfl⟩, trivial⟩, ⟨rfl, rfl⟩, trivial⟩, ?_⟩
    dsimp only [v6, enc2, Int.toNat_zero, go_sem, reduceIte]
    simp only [t_all, forall_const, ne_eq, implies_true, Nat.reduceAdd, Nat.reduceLeDiff, reduceCtorEq, Nat.reduceEqDiff]
    refine ⟨⟨by omega, by omega⟩, ans_bool h⟩
  · exact h.1.elim
def ptB (g : Bool) (mn md cn cd : Int) : Nat → Bool
  | 0 => g
  | 1 => g && partS mn
  | 2 => g && partS mn && partS md
  | 3 => g && partS mn && partS md && partS cn
  | _ => g && partS mn && partS md && partS cn && partS cd
def stepG (g : Bool × Int) (b : Int × Int) : Bool × Int := (g.1 && decide (g.2 < b.1) && decide (b.1 ≤ 139) && inS b.2 8 64, max g.2 b.1)
theorem stepG_is : ∀ (r : List (Int × Int)) (g : Bool) (last : Int), (r.foldl stepG (g, last)).1 = (g && benL r last)
  | [], g, last => by rw [benL, Bool.and_true]; rfl
  | b :: r, g, last => by
    rw [List.foldl_cons, stepG, stepG_is r, benL]
    simp only
    by_cases c : last < b.1
    · rw [decide_eq_true c, show max last b.1 = b.1 by omega]
      simp only [Bool.and_true, Bool.true_and, Bool.and_assoc]
    · rw [decide_eq_false c]
      simp only [Bool.and_false, Bool.false_and]
def chkSC : Ctr := { alias := false, of := fun l => match l with
  | [.agg [.int .i64 d, .int .i64 c, .vs _ _ n sz get, .int .i64 mn, .int .i64 md, .int .i64 cn, .int .i64 cd]] =>
    .ex (List (Int × Int)) fun bs => .pre (lsP 2 enc2 n sz get bs ∧ n ≤ 9223372036854775807) (.fin (.int .i64 (chkS ⟨d, c, bs, mn, md, cn, cd⟩)) [])
  | _ => noC }
def K01 : Env := { ct := fun n => match n with | 41 => some inSC | _ => none, fn := fun _ => none, meth := fun _ _ => none }
theorem K01_ct41 : K01.ct 41 = some inSC := rfl
theorem K01_ok : EnvOk Try.prog K01 := by
  refine ⟨fun f c h => ?_, fun f vf h => ?_, (fun _ _ _ h => by cases h), by kernel_rfl, (fun _ h => by cases h)⟩
  · simp only [K01] at h
    split at h
    · cases h; exact ⟨inS_c, Try.f41, Try.func41, by kernel_rfl, by kernel_rfl⟩
    · cases h
  · cases h
theorem chkS_c : chkSC.ok Try.prog 30 := by
  refine contract Try.func30 v30_is K01_ok 400 chkSC fun args k h => ?_
  simp only [chkSC] at h
  split at h
  · rename_i d c tt z n sz get mn md cn cd
    obtain ⟨bs, ⟨⟨rfl, rfl, hg⟩, hn⟩, h⟩ := h
    refine ⟨[.agg [.int .i64 d, .int .i64 c, .vs tt z bs.length 2 (fun k => enc2 (bs.getD k default)), .int .i64 mn, .int .i64 md, .int .i64 cn, .int .i64 cd]], ⟨⟨⟨rfl, rfl⟩, ⟨rfl, rfl⟩, ⟨id, rfl, rfl, rfl, hg⟩, ⟨rfl, rfl⟩, ⟨rfl, rfl⟩, ⟨rfl, rfl⟩, ⟨rfl, rfl⟩, trivial⟩, trivial⟩, ?_⟩
    dsimp only [v30, K01_ct41, inSC, enc2, go_sem, reduceIte]
    simp only [t_all, forall_const, ne_eq, implies_true, Nat.reduceAdd, Nat.reduceLeDiff, reduceCtorEq, Nat.reduceEqDiff]
    refine ⟨fun hc => ?_, fun hc => ?_⟩
    · rw [chkS, if_pos (by simp only; omega)] at h; exact ans_int h
    · rw [chkS, if_neg (by simp only; omega)] at h
      obtain ⟨G, hG⟩ : ∃ G, G = (decide (0 < (bs.length : Int)) && inS d 1000 500000 && inS c 0 (min 50000 (IntKind.i64.wrap (d - 1)))) := ⟨_, rfl⟩
      rw [← hG]
      refine Loop.keep [1, 37] Nat (fun i => [(3, .bool (ptB G mn md cn cd i)), (40, .int .i64 i)]) (fun _ => []) [] (fun i => i ≤ 4) (fun i => 4 - i) ?_ ?_
      · refine ⟨0, by omega, ?_⟩
        dsimp only [go_sem, reduceIte]
        simp only [fin_all, imp_self, implies_true, true_and, and_true]
        exact ⟨by decide, rfl, rfl⟩
      · intro i hi
        rcases (by omega : i = 0 ∨ i = 1 ∨ i = 2 ∨ i = 3 ∨ i = 4) with rfl | rfl | rfl | rfl | rfl
        · dsimp only [K01_ct41, inSC, Int.toNat_natCast, go_sem, reduceIte]
          simp only [t_all, forall_const, ne_eq, implies_true, Nat.reduceAdd, Nat.reduceLeDiff, reduceCtorEq, Nat.reduceEqDiff]
          refine ⟨fun _ => ⟨by decide, 1, by decide, by decide, ?_⟩, fun hh => absurd (by decide) hh⟩
          simp only [fin_all, imp_self, implies_true, true_and, and_true]
          exact ⟨by decide, rfl, rfl⟩
        · dsimp only [K01_ct41, inSC, Int.toNat_natCast, go_sem, reduceIte]
          simp only [t_all, forall_const, ne_eq, implies_true, Nat.reduceAdd, Nat.reduceLeDiff, reduceCtorEq, Nat.reduceEqDiff]
          refine ⟨fun _ => ⟨by decide, 2, by decide, by decide, ?_⟩, fun hh => absurd (by decide) hh⟩
          simp only [fin_all, imp_self, implies_true, true_and, and_true]
          exact ⟨by decide, rfl, rfl⟩
        · dsimp only [K01_ct41, inSC, Int.toNat_natCast, go_sem, reduceIte]
          simp only [t_all, forall_const, ne_eq, implies_true, Nat.reduceAdd, Nat.reduceLeDiff, reduceCtorEq, Nat.reduceEqDiff]
          refine ⟨fun _ => ⟨by decide, 3, by decide, by decide, ?_⟩, fun hh => absurd (by decide) hh⟩
          simp only [fin_all, imp_self, implies_true, true_and, and_true]
          exact ⟨by decide, rfl, rfl⟩
        · dsimp only [K01_ct41, inSC, Int.toNat_natCast, go_sem, reduceIte]
          simp only [t_all, forall_const, ne_eq, implies_true, Nat.reduceAdd, Nat.reduceLeDiff, reduceCtorEq, Nat.reduceEqDiff]
          refine ⟨fun _ => ⟨by decide, 4, by decide, by decide, ?_⟩, fun hh => absurd (by decide) hh⟩
          simp only [fin_all, imp_self, implies_true, true_and, and_true]
          exact ⟨by decide, rfl, rfl⟩
        · dsimp only [K01_ct41, inSC, Int.toNat_natCast, go_sem, reduceIte]
          simp only [t_all, forall_const, ne_eq, implies_true, Nat.reduceAdd, Nat.reduceLeDiff, reduceCtorEq, Nat.reduceEqDiff]
          refine ⟨fun hh => absurd hh (by decide), fun _ => ?_⟩
          obtain ⟨G2, hG2⟩ : ∃ G2, G2 = ptB G mn md cn cd 4 := ⟨_, rfl⟩
          rw [← hG2]
          refine Loop.keep [1, 48, 0] Nat (fun i => [(3, .bool ((bs.take i).foldl stepG (G2, -1)).1), (6, .int .i64 ((bs.take i).foldl stepG (G2, -1)).2), (52, .int .i64 i)]) (fun _ => []) [] (fun i => i ≤ bs.length) (fun i => bs.length - i) ?_ ?_
          · refine ⟨0, by omega, ?_⟩
            dsimp only [go_sem, reduceIte]
            simp only [fin_all, imp_self, implies_true, true_and, and_true]
            exact ⟨by decide, rfl, rfl, rfl⟩
          · intro i hi
            dsimp only [K01_ct41, inSC, enc2, Int.toNat_natCast, go_sem, reduceIte]
            simp only [t_all, forall_const, ne_eq, implies_true, Nat.reduceAdd, Nat.reduceLeDiff, reduceCtorEq, Nat.reduceEqDiff]
            refine ⟨fun hlt => ⟨⟨by omega, by omega⟩, i + 1, by omega, by omega, ?_⟩, fun hge => ?_⟩
            · rw [foldl_take_succ (by omega), IntWalk.i64_in ((i : Int) + 1) (by omega)]
              simp only [fin_all, imp_self, implies_true, true_and, and_true]
              exact ⟨by decide, rfl, rfl, rfl⟩
            · obtain rfl : i = bs.length := by omega
              rw [List.take_length, stepG_is]
              have e : okS ⟨d, c, bs, mn, md, cn, cd⟩ = (G2 && benL bs (-1) && decide (mn < md)) := by
                have hp : ptB G mn md cn cd 4 = (G && partS mn && partS md && partS cn && partS cd) := rfl
                rw [hG2, hp, hG, okS]
                have e1 : decide (bs ≠ []) = decide (0 < (bs.length : Int)) := by
                  cases bs with
                  | nil => rfl
                  | cons b r => rw [decide_eq_true (by simp), decide_eq_true (by rw [List.length_cons]; omega)]
                simp only
                rw [e1]
                by_cases hd : inS d 1000 500000 = true
                · have hd' := hd
                  simp only [inS, Bool.and_eq_true, decide_eq_true_eq] at hd'
                  rw [IntWalk.i64_in (d - 1) (by omega)]
                · rw [Bool.not_eq_true] at hd
                  rw [hd]
                  simp only [Bool.and_false, Bool.false_and]
              rw [e] at h
              have e2 : decide (md ≤ mn) = !decide (mn < md) := by
                by_cases hh : mn < md
                · rw [decide_eq_true hh, decide_eq_false (by omega)]; rfl
                · rw [decide_eq_false hh, decide_eq_true (by omega)]; rfl
              rw [e2, ← Bool.not_and]
              refine ⟨fun hh => ?_, fun hh => ?_⟩
              · rw [Bool.not_eq_true'] at hh
                rw [hh, if_neg (by decide)] at h; exact ans_int h
              · rw [Bool.not_eq_false'] at hh
                rw [hh, if_pos rfl] at h; exact ans_int h
  · exact h.1.elim
theorem benL_all : ∀ (r : List (Int × Int)) (last : Int), benL r last = true ↔ ∀ j, j < r.length → ((r.getD j default).1 ≤ 139 ∧ 8 ≤ (r.getD j default).2 ∧ (r.getD j default).2 ≤ 64) ∧ (if j = 0 then last else (r.getD (j - 1) default).1) < (r.getD j default).1
  | [], last => by simp [benL]
  | b :: r, last => by
    have ih := benL_all r b.1
    simp only [benL, inS, Bool.and_eq_true, decide_eq_true_eq]
    constructor
    · rintro ⟨⟨⟨h1, h2⟩, h3, h4⟩, h5⟩ j hj
      cases j with
      | zero => exact ⟨⟨h2, h3, h4⟩, h1⟩
      | succ j =>
        have := ih.1 h5 j (by simpa using hj)
        refine ⟨this.1, ?_⟩
        cases j with
        | zero => exact this.2
        | succ j => exact this.2
    · intro h
      have h0 := h 0 (by simp)
      refine ⟨⟨⟨h0.2, h0.1.1⟩, h0.1.2⟩, ih.2 fun j hj => ?_⟩
      have := h (j + 1) (by simpa using hj)
      refine ⟨this.1, ?_⟩
      cases j with
      | zero => exact this.2
      | succ j => exact this.2
theorem benL_1 (r : List (Int × Int)) : benL r (-1) = true ↔ ∀ j, j < r.length → (0 ≤ (r.getD j default).1 ∧ (r.getD j default).1 ≤ 139 ∧ 8 ≤ (r.getD j default).2 ∧ (r.getD j default).2 ≤ 64) ∧ (0 < j → (r.getD (j - 1) default).1 < (r.getD j default).1) := by
  rw [benL_all]
  constructor
  · intro h j
    induction j with
    | zero =>
      intro hj
      have := h 0 hj
      simp only [if_pos] at this
      exact ⟨by omega, fun hh => absurd hh (by decide)⟩
    | succ j ih =>
      intro hj
      have h1 := h (j + 1) hj
      have h2 := ih (by omega)
      rw [if_neg (by omega)] at h1
      simp only [Nat.add_sub_cancel] at h1 ⊢
      exact ⟨by omega, fun _ => h1.2⟩
  · intro h j hj
    have h1 := h j hj
    refine ⟨h1.1.2, ?_⟩
    by_cases c : j = 0
    · rw [if_pos c]; omega
    · rw [if_neg c]; exact h1.2 (by omega)
def K02 : Env := { ct := fun n => match n with | 16 => some partSC | _ => none, fn := fun _ => none, meth := fun _ _ => none }
theorem K02_ct16 : K02.ct 16 = some partSC := rfl
theorem K02_ok : EnvOk Try.prog K02 := by
  refine ⟨fun f c h => ?_, fun f vf h => ?_, (fun _ _ _ h => by cases h), by kernel_rfl, (fun _ h => by cases h)⟩
  · simp only [K02] at h
    split at h
    · cases h; exact ⟨partS_c, Try.f16, Try.func16, by kernel_rfl, by kernel_rfl⟩
    · cases h
  · cases h
theorem rchkS_c : chkSC.ok Try.prog 5 := by
  refine contract Try.func5 v5_is K02_ok 400 chkSC fun args k h => ?_
  simp only [chkSC] at h
  split at h
  · rename_i d c tt z n sz get mn md cn cd
    obtain ⟨bs, ⟨⟨rfl, rfl, hg⟩, hn⟩, h⟩ := h
    refine ⟨[.agg [.int .i64 d, .int .i64 c, .vs tt z bs.length 2 (fun k => enc2 (bs.getD k default)), .int .i64 mn, .int .i64 md, .int .i64 cn, .int .i64 cd]], ⟨⟨⟨rfl, rfl⟩, ⟨rfl, rfl⟩, ⟨id, rfl, rfl, rfl, hg⟩, ⟨rfl, rfl⟩, ⟨rfl, rfl⟩, ⟨rfl, rfl⟩, ⟨rfl, rfl⟩, trivial⟩, trivial⟩, ?_⟩
    dsimp only [v5, enc2, go_sem, reduceIte]
    simp only [t_all, forall_const, ne_eq, implies_true, Nat.reduceAdd, Nat.reduceLeDiff, reduceCtorEq, Nat.reduceEqDiff]
    refine ⟨fun hc => ?_, fun hc => ?_⟩
    · rw [chkS, if_pos (by simp only; omega)] at h; exact ans_int h
    · rw [chkS, if_neg (by simp only; omega)] at h
      refine Loop.keep [1] Nat (fun i => [(3, .int .i64 i)]) (fun _ => []) [] (fun i => i ≤ bs.length ∧ ∀ j, j < i → (0 ≤ (bs.getD j default).1 ∧ (bs.getD j default).1 ≤ 139 ∧ 8 ≤ (bs.getD j default).2 ∧ (bs.getD j default).2 ≤ 64) ∧ (0 < j → (bs.getD (j - 1) default).1 < (bs.getD j default).1)) (fun i => bs.length - i) ?_ ?_
      · refine ⟨0, ⟨by omega, fun j hj => by omega⟩, ?_⟩
        dsimp only [go_sem, reduceIte]
        simp only [fin_all, imp_self, implies_true, true_and, and_true]
        exact ⟨by decide, rfl⟩
      · rintro i ⟨hi, hall⟩
        dsimp only [K02_ct16, partSC, enc2, Int.toNat_natCast, go_sem, reduceIte]
        simp only [t_all, forall_const, ne_eq, implies_true, Nat.reduceAdd, Nat.reduceLeDiff, reduceCtorEq, Nat.reduceEqDiff]
        refine ⟨fun hlt => ⟨⟨by omega, by omega⟩, fun hh => ?_, fun h1 h2 => by rw [h1, decide_eq_true h2]; rfl, fun hh => ?_, fun hh => ?_⟩, fun hge => ?_⟩
        · rw [Bool.and_eq_true, decide_eq_true_eq] at hh
          rw [IntWalk.i64_in ((i : Int) - 1) (by omega)]
          exact ⟨by omega, by omega⟩
        · have e : okS ⟨d, c, bs, mn, md, cn, cd⟩ ≠ true := fun ho => by
            simp only [okS, Bool.and_eq_true] at ho
            have := (benL_1 bs).1 ho.1.2 i (by omega)
            simp only [Bool.or_eq_true, Bool.and_eq_true, decide_eq_true_eq] at hh
            rcases hh with hh | hh
            · omega
            · rw [IntWalk.i64_in ((i : Int) - 1) (by omega), show ((i : Int) - 1).toNat = i - 1 by omega] at hh
              have := this.2 (by omega)
              omega
          rw [if_neg e] at h; exact ans_int h
        · simp only [Bool.or_eq_false_iff, Bool.and_eq_false_iff, decide_eq_false_iff_not] at hh
          refine ⟨i + 1, ⟨by omega, fun j hj => ?_⟩, by omega, ?_⟩
          · by_cases hji : j < i
            · exact hall j hji
            · obtain rfl : j = i := by omega
              refine ⟨by omega, fun h0 => ?_⟩
              rcases hh.2 with h3 | h3
              · omega
              · rw [IntWalk.i64_in ((j : Int) - 1) (by omega), show ((j : Int) - 1).toNat = j - 1 by omega] at h3
                omega
          · rw [IntWalk.i64_in ((i : Int) + 1) (by omega)]
            simp only [fin_all, imp_self, implies_true, true_and, and_true]
            exact ⟨by decide, rfl⟩
        · obtain rfl : i = bs.length := by omega
          have hb := (benL_1 bs).2 hall
          have e : okS ⟨d, c, bs, mn, md, cn, cd⟩ = ((!(decide ((bs.length : Int) = 0) || decide (d < 1000) || decide (500000 < d) || decide (c < 0) || decide (50000 < c) || decide (d ≤ c))) && !(!partS mn || !partS md || !partS cn || !partS cd || decide (md ≤ mn))) := by
            rw [Bool.eq_iff_iff]
            simp only [okS, hb, inS, ← List.length_eq_zero_iff, Bool.and_eq_true, Bool.not_eq_true', Bool.or_eq_false_iff, Bool.not_eq_false', decide_eq_true_eq, decide_eq_false_iff_not, ne_eq]
            constructor
            · rintro ⟨⟨⟨⟨⟨⟨⟨⟨h1, h2⟩, h3⟩, h4⟩, h5⟩, h6⟩, h7⟩, _⟩, h8⟩
              exact ⟨⟨⟨⟨⟨⟨by omega, by omega⟩, by omega⟩, by omega⟩, by omega⟩, by omega⟩, ⟨⟨⟨h4, h5⟩, h6⟩, h7⟩, by omega⟩
            · rintro ⟨⟨⟨⟨⟨⟨h1, h2⟩, h3⟩, h4⟩, h5⟩, h6⟩, ⟨⟨⟨h7, h8⟩, h9⟩, h10⟩, h11⟩
              exact ⟨⟨⟨⟨⟨⟨⟨⟨by omega, by omega⟩, by omega⟩, h7⟩, h8⟩, h9⟩, h10⟩, trivial⟩, by omega⟩
          rw [e] at h
          refine ⟨fun hh => ?_, fun hh => ⟨fun hx => ?_, fun hx => ?_⟩⟩
          · rw [hh, if_neg (by simp)] at h; exact ans_int h
          · rw [hx, if_neg (by simp)] at h; exact ans_int h
          · rw [hh, hx, if_pos (by decide)] at h; exact ans_int h
  · exact h.1.elim
end Go.Proofs.Ytmgfmkbniaepcaa
set_option linter.all false
namespace Go.Proofs.Ytmgfmkbniaepcaa
open Go Go.Vx
set_option maxRecDepth 100000
set_option maxHeartbeats 4000000
def v35 : VF := { ntmps := 37, res := [.cell 4 false 1, .cell 5 false 1], body :=
 (.seq (.region [u1 2 .box [.tm 0],
 u1 4 (.alloc [(.int .i64 0)]) [],
 u1 5 (.alloc [(.int .i64 0)]) []])
 (.scope (.seq (.region [u0 (.store 1) [.tm 5, .cn (.int .i64 1)]])
 (.seq (.region [u1 6 (.alloc [(.int .i64 0)]) [],
 u1 7 (.alloc [(.int .i64 0)]) [],
 u0 (.store 1) [.tm 6, .cn (.int .i64 0)],
 u0 (.store 1) [.tm 7, .cn (.int .i64 0)]])
 (.seq (.region [u1 11 (.mkfn (.func 46) 0) [.tm 7, .tm 4, .tm 6, .tm 5],
 u1 8 .mov [.tm 11]])
 (.seq .skip
 (.seq (.seq (.region [u1 12 (.fieldAddr 2) [.tm 2],
 u1 13 (.load false 1) [.tm 12],
 u1 14 .len [.tm 13],
 u1 15 .mov [.cn (.int .i64 0)]])
 (.block 0 (.loop (.seq (.region [u1 16 (.cmp .lss) [.tm 15, .tm 14]])
 (.seq (.cond (.tm 16) .skip
  (.exit 0))
 (.seq (.block 1 (.seq (.region [u1 17 (.idxAddr 2) [.tm 13, .tm 15],
 u1 18 (.load true 2) [.tm 17],
 u1 10 (.alloc [(.int .i64 0), (.int .i64 0)]) [],
 u0 (.store 2) [.tm 10, .tm 18]])
 (.seq (.seq (.region [u1 19 (.fieldAddr 0) [.tm 10],
 u1 20 (.load false 1) [.tm 19],
 u1 21 .mov [.tm 1],
 u1 22 (.cmp .geq) [.tm 20, .tm 21]])
 (.cond (.tm 22) (.exit 0)
  .skip))
 (.seq (.region [u1 23 .mov [.tm 8],
 u1 24 (.fieldAddr 0) [.tm 10],
 u1 25 (.load false 1) [.tm 24],
 u1 26 .callv [.tm 23, .tm 25]])
 (.draw [] [w1 27 (.fieldAddr 0) [.tm 10],
 w1 28 (.load false 1) [.tm 27],
 w1 29 (.fieldAddr 1) [.tm 10],
 w1 30 (.load false 1) [.tm 29],
 ⟨u0 (.store 1) [.tm 6, .tm 28], [.tm 29]⟩,
 w0 (.store 1) [.tm 7, .tm 30]])))))
 (.region [u1 31 (.ari .add) [.tm 15, .cn (.int .i64 1)],
 u1 15 .mov [.tm 31]])))))))
 (.seq (.region [u1 32 .mov [.tm 8],
 u1 33 .mov [.tm 1],
 u1 34 .callv [.tm 32, .tm 33]])
 (.seq (.draw [] [w1 35 (.load false 1) [.tm 4],
 w1 36 (.load false 1) [.tm 5],
 ⟨u0 (.store 1) [.tm 4, .tm 35], [.tm 5]⟩,
 w0 (.store 1) [.tm 5, .tm 36]])
 .ret))))))))) }
theorem v35_is : vfunc Try.prog Try.f35 = some v35 := by kernel_rfl
def v46 : VF := { ntmps := 20, res := [], body :=
 (.seq (.region [u1 6 (.load false 1) [.tm 1],
 u1 7 (.cmp .gtr) [.tm 6, .cn (.int .i64 0)]])
 (.cond (.tm 7) (.draw [] [w1 8 (.load false 1) [.tm 2],
 w1 9 (.load false 1) [.tm 1],
 w1 10 (.ari .mul) [.tm 8, .tm 9],
 w1 11 .mov [.tm 0],
 w1 12 (.load false 1) [.tm 3],
 w1 13 (.ari .sub) [.tm 11, .tm 12],
 w1 14 (.load false 1) [.tm 4],
 w1 15 (.ari .mul) [.tm 13, .tm 14],
 w1 16 (.ari .add) [.tm 10, .tm 15],
 w1 17 (.load false 1) [.tm 4],
 w1 18 (.load false 1) [.tm 1],
 w1 19 (.ari .mul) [.tm 17, .tm 18],
 ⟨u0 (.store 1) [.tm 2, .tm 16], [.tm 4, .tm 1]⟩,
 w0 (.store 1) [.tm 4, .tm 19]])
  .skip)) }
theorem v46_is : vfunc Try.prog Try.f46 = some v46 := by kernel_rfl
def v21 : VF := { ntmps := 48, res := [.cell 4 true 2], body :=
 (.seq (.region [u1 2 .box [.tm 0],
 u1 4 (.alloc [(.int .i64 0), (.int .i64 0)]) []])
 (.seq (.region [u1 12 (.load true 7) [.tm 2],
 u1 13 .mov [.tm 1],
 u1 14 (.call 35) [.tm 12, .tm 13],
 u1 11 .mov [.tm 14],
 u1 15 (.ext 0) [.tm 11],
 u1 16 (.ext 1) [.tm 11],
 u1 5 .mov [.tm 15],
 u1 6 .mov [.tm 16]])
 (.seq (.region [u1 18 (.fieldAddr 0) [.tm 2],
 u1 19 (.load false 1) [.tm 18],
 u1 20 (.fieldAddr 1) [.tm 2],
 u1 21 (.load false 1) [.tm 20],
 u1 22 (.ari .sub) [.tm 19, .tm 21],
 u1 23 .mov [.tm 5],
 u1 24 .neg [.tm 23],
 u1 25 (.build [(.int .i64 0), (.int .i64 0)] [(0, 1), (1, 1)]) [.cn (.int .i64 2), .tm 24],
 u1 26 (.buildSlice 2 1 [(.int .i64 0), (.int .i64 0)] [(0, 2)]) [.tm 25],
 u1 27 .mov [.tm 6],
 u1 28 (.call 36) [.tm 22, .tm 26, .tm 27],
 u1 17 .mov [.tm 28],
 u1 29 (.ext 0) [.tm 17],
 u1 30 (.ext 1) [.tm 17],
 u1 31 (.ext 2) [.tm 17],
 u1 7 .mov [.tm 29],
 u1 8 .mov [.tm 30],
 u1 9 .mov [.tm 31]])
 (.seq (.region [u1 32 (.fieldAddr 1) [.tm 2],
 u1 33 (.load false 1) [.tm 32],
 u1 34 .mov [.tm 7],
 u1 35 (.ari .add) [.tm 33, .tm 34],
 u1 36 (.fieldAddr 1) [.tm 2],
 u1 37 (.load false 1) [.tm 36],
 u1 38 .mov [.tm 7],
 u1 39 (.ari .add) [.tm 37, .tm 38],
 u1 40 (.build [(.int .i64 0), (.int .i64 0)] [(0, 1), (1, 1)]) [.tm 35, .tm 39],
 u1 10 (.alloc [(.int .i64 0), (.int .i64 0)]) [],
 u0 (.store 2) [.tm 10, .tm 40]])
 (.seq (.seq (.region [u1 41 .mov [.tm 8],
 u1 42 .not [.tm 41]])
 (.cond (.tm 42) (.region [u1 43 (.fieldAddr 1) [.tm 10],
 u1 44 (.load false 1) [.tm 43],
 u1 45 (.ari .add) [.tm 44, .cn (.int .i64 1)],
 u1 46 (.fieldAddr 1) [.tm 10],
 u0 (.store 1) [.tm 46, .tm 45]])
  .skip))
 (.seq (.region [u1 47 (.load true 2) [.tm 10],
 u0 (.store 2) [.tm 4, .tm 47]])
 .ret)))))) }
theorem v21_is : vfunc Try.prog Try.f21 = some v21 := by kernel_rfl
def v8 : VF := { ntmps := 18, res := [.cell 4 true 2, .tmp 5], body :=
 (.seq (.region [u1 2 .box [.tm 0],
 u1 4 (.alloc [(.int .i64 0), (.int .i64 0)]) [],
 u1 5 .mov [.cn (.int .i64 0)]])
 (.seq (.seq (.region [u1 7 (.load true 7) [.tm 2],
 u1 8 .mov [.tm 1],
 u1 9 .mov [.tm 1],
 u1 10 (.call 20) [.tm 7, .tm 8, .tm 9],
 u1 6 .mov [.tm 10]])
 (.seq (.region [u1 11 .mov [.tm 6],
 u1 12 (.cmp .neq) [.tm 11, .cn (.int .i64 0)]])
 (.cond (.tm 12) (.seq (.region [u1 13 (.build [(.int .i64 0), (.int .i64 0)] []) [],
 u1 14 .mov [.tm 6],
 u0 (.store 2) [.tm 4, .tm 13],
 u1 5 .mov [.tm 14]])
 .ret)
  .skip)))
 (.seq (.region [u1 15 (.load true 7) [.tm 2],
 u1 16 .mov [.tm 1],
 u1 17 (.call 21) [.tm 15, .tm 16],
 u0 (.store 2) [.tm 4, .tm 17],
 u1 5 .mov [.cn (.int .i64 0)]])
 .ret))) }
theorem v8_is : vfunc Try.prog Try.f8 = some v8 := by kernel_rfl
theorem drop_getD {α : Type} [Inhabited α] {l : List α} {i : Nat} (h : i < l.length) : l.drop i = l.getD i default :: l.drop (i + 1) := by
  rw [List.drop_eq_getElem_cons h, List.getD_eq_getElem?_getD, List.getElem?_eq_getElem h]; rfl
theorem ans_t2 {k : SV → List HO → Prop} {al : Bool} {hp : List HO} {κ κ' : IntKind} {x y : Int} (h : k (.tup [.int κ x, .int κ' y]) []) : answers al k (.tup [.int κ x, .int κ' y]) hp :=
  ans_le (show k _ [] from h) (le_self (.tup [.int κ x, .int κ' y]) ⟨trivial, trivial, trivial⟩) (fun _ => by simp [freshS, freshL])
theorem okS_len {s : Scl} (h : chkS s = 0) : 0 < s.bs.length ∧ s.bs.length ≤ 3 ∧ okS s = true := by
  unfold chkS at h
  split at h
  · cases h
  · split at h
    · rename_i h1 h2
      refine ⟨?_, by omega, h2⟩
      simp only [okS, Bool.and_eq_true, decide_eq_true_eq] at h2
      exact List.length_pos_iff.2 h2.1.1.1.1.1.1.1.1
    · cases h
theorem ans_ii2 {k : SV → List HO → Prop} {al : Bool} {hp : List HO} {x y : Int} (h : k (.agg [.int .i64 x, .int .i64 y]) []) : answers al k (.agg [.int .i64 x, .int .i64 y]) hp :=
  ans_le (show k _ [] from h) (le_self (.agg [.int .i64 x, .int .i64 y]) ⟨trivial, trivial, trivial⟩) (fun _ => by simp [freshS, freshL])
theorem ans_iie {k : SV → List HO → Prop} {al : Bool} {hp : List HO} {x y e : Int} (h : k (.tup [.agg [.int .i64 x, .int .i64 y], .int .i64 e]) []) : answers al k (.tup [.agg [.int .i64 x, .int .i64 y], .int .i64 e]) hp :=
  ans_le (show k _ [] from h) (le_self (.tup [.agg [.int .i64 x, .int .i64 y], .int .i64 e]) ⟨⟨trivial, trivial, trivial⟩, trivial, trivial⟩) (fun _ => by simp [freshS, freshL])
def askC : Ctr := { alias := false, of := fun l => match l with
  | [.agg [.int .i64 d, .int .i64 c, .vs _ _ n sz get, .int .i64 mn, .int .i64 md, .int .i64 cn, .int .i64 cd], .int .i64 low, .int .i64 high] =>
    .ex (List (Int × Int)) fun bs => .pre (lsP 2 enc2 n sz get bs ∧ n ≤ 9223372036854775807) (.fin (.int .i64 (askS ⟨d, c, bs, mn, md, cn, cd⟩ low high)) [])
  | _ => noC }
def K10 : Env := { ct := fun n => match n with | 30 => some chkSC | 31 => some hasC | _ => none, fn := fun _ => none, meth := fun _ _ => none }
theorem K10_ct30 : K10.ct 30 = some chkSC := rfl
theorem K10_ct31 : K10.ct 31 = some hasC := rfl
theorem K10_ok : EnvOk Try.prog K10 := by
  refine ⟨fun f c h => ?_, fun f vf h => ?_, (fun _ _ _ h => by cases h), by kernel_rfl, (fun _ h => by cases h)⟩
  · simp only [K10] at h
    split at h
    · cases h; exact ⟨chkS_c, Try.f30, Try.func30, by kernel_rfl, by kernel_rfl⟩
    · cases h; exact ⟨hasS_c, Try.f31, Try.func31, by kernel_rfl, by kernel_rfl⟩
    · cases h
  · cases h
theorem ask_c : askC.ok Try.prog 20 := by
  refine contract Try.func20 v20_is K10_ok 300 askC fun args k h => ?_
  simp only [askC] at h
  split at h
  · rename_i d c tt z n sz get mn md cn cd low high
    obtain ⟨bs, ⟨⟨rfl, rfl, hg⟩, hn⟩, h⟩ := h
    refine ⟨[.agg [.int .i64 d, .int .i64 c, .vs tt z bs.length 2 (fun k => enc2 (bs.getD k default)), .int .i64 mn, .int .i64 md, .int .i64 cn, .int .i64 cd], .int .i64 low, .int .i64 high], ⟨⟨⟨rfl, rfl⟩, ⟨rfl, rfl⟩, ⟨id, rfl, rfl, rfl, hg⟩, ⟨rfl, rfl⟩, ⟨rfl, rfl⟩, ⟨rfl, rfl⟩, ⟨rfl, rfl⟩, trivial⟩, ⟨rfl, rfl⟩, ⟨rfl, rfl⟩, trivial⟩, ?_⟩
    dsimp only [v20, K10_ct30, K10_ct31, chkSC, hasC, enc2, go_sem, reduceIte]
    simp only [t_all, forall_const, ne_eq, implies_true, Nat.reduceAdd, Nat.reduceLeDiff, reduceCtorEq, Nat.reduceEqDiff]
    have self : lsP 2 enc2 bs.length 2 (fun k => [SV.int IntKind.i64 (bs.getD k default).fst, SV.int IntKind.i64 (bs.getD k default).snd]) bs := ⟨rfl, rfl, fun k _ => leXL_self _⟩
    refine ⟨bs, ⟨self, hn⟩, fun hc => ?_, fun hc => ?_⟩
    · rw [askS, if_pos hc] at h; exact ans_int h
    · rw [askS, if_neg (by rw [hc]; decide)] at h
      have hl := (okS_len hc).1
      refine ⟨bs, ⟨self, hl, hn⟩, bs, fun _ => ⟨self, hl, hn⟩, fun hh => ?_, fun hh => ?_⟩
      · rw [if_pos hh] at h; exact ans_int h
      · rw [if_neg (by rw [hh]; decide)] at h; exact ans_int h
  · exact h.1.elim
def expC : Ctr := { alias := false, of := fun l => match l with
  | [.agg [.int .i64 d, .int .i64 c, .vs _ _ n sz get, .int .i64 mn, .int .i64 md, .int .i64 cn, .int .i64 cd], .int .i64 note] =>
    .ex (List (Int × Int)) fun bs => .pre (lsP 2 enc2 n sz get bs ∧ n ≤ 9223372036854775807) (.fin (.tup [.int .i64 (expF bs note).1, .int .i64 (expF bs note).2]) [])
  | _ => noC }
def K11 : Env := { ct := fun _ => none, fn := fun n => match n with | 46 => some v46 | _ => none, meth := fun _ _ => none }
theorem K11_ct46 : K11.ct 46 = none := rfl
theorem K11_fn46 : K11.fn 46 = some v46 := rfl
theorem K11_ok : EnvOk Try.prog K11 := by
  refine ⟨fun f c h => ?_, fun f vf h => ?_, (fun _ _ _ h => by cases h), by kernel_rfl, (fun _ h => by cases h)⟩
  · cases h
  · simp only [K11] at h
    split at h
    · cases h; exact ⟨Try.f46, Try.func46, v46_is, Try.f46, Try.func46, by kernel_rfl, by kernel_rfl⟩
    · cases h
theorem exp_c : expC.ok Try.prog 35 := by
  refine contract Try.func35 v35_is K11_ok 500 expC fun args k h => ?_
  simp only [expC] at h
  split at h
  · rename_i d c tt z n sz get mn md cn cd note
    obtain ⟨bs, ⟨⟨rfl, rfl, hg⟩, hn⟩, h⟩ := h
    refine ⟨[.agg [.int .i64 d, .int .i64 c, .vs tt z bs.length 2 (fun k => enc2 (bs.getD k default)), .int .i64 mn, .int .i64 md, .int .i64 cn, .int .i64 cd], .int .i64 note], ⟨⟨⟨rfl, rfl⟩, ⟨rfl, rfl⟩, ⟨id, rfl, rfl, rfl, hg⟩, ⟨rfl, rfl⟩, ⟨rfl, rfl⟩, ⟨rfl, rfl⟩, ⟨rfl, rfl⟩, trivial⟩, ⟨rfl, rfl⟩, trivial⟩, ?_⟩
    dsimp only [v35, K11_ct46, K11_fn46, v46, enc2, go_sem, reduceIte]
    simp only [t_all, forall_const, ne_eq, implies_true, Nat.reduceAdd, Nat.reduceLeDiff, reduceCtorEq, Nat.reduceEqDiff]
    obtain ⟨R, hR⟩ : ∃ R, R = expF bs note := ⟨_, rfl⟩
    rw [← hR] at h
    refine Loop.keep [1, 2, 0, 0, 0, 0, 4, 0] (Exn × Nat) (fun s => [(15, .int .i64 s.2)]) (fun s => [(1, .box [.int .i64 s.1.n]), (2, .box [.int .i64 s.1.d]), (3, .box [.int .i64 s.1.f]), (4, .box [.int .i64 s.1.h])]) [] (fun s => s.2 ≤ bs.length ∧ R = expL note (bs.drop s.2) s.1) (fun s => bs.length - s.2) ?_ ?_
    · refine ⟨(⟨0, 0, 0, 1⟩, 0), ⟨by simp, hR⟩, ?_⟩
      dsimp only [go_sem, reduceIte]
      simp only [fin_all, imp_self, implies_true, true_and, and_true]
      decide
    · rintro ⟨e, i⟩ ⟨hi, hinv⟩
      dsimp only at hi hinv
      dsimp only [K11_ct46, K11_fn46, v46, enc2, Int.toNat_natCast, go_sem, reduceIte]
      simp only [t_all, forall_const, ne_eq, implies_true, Nat.reduceAdd, Nat.reduceLeDiff, reduceCtorEq, Nat.reduceEqDiff]
      refine ⟨fun hlt => ⟨⟨by omega, by omega⟩, fun hb => ?_, fun hb => ⟨fun hh => ?_, fun hh => ?_⟩⟩, fun hge => ?_⟩
      · rw [drop_getD (by omega : i < bs.length), expL, if_pos hb] at hinv
        rw [hinv] at h
        refine ⟨fun hh => ?_, fun hh => ?_⟩
        · rw [addE, if_pos hh] at h; exact ans_t2 h
        · rw [addE, if_neg hh] at h; exact ans_t2 h
      · rw [drop_getD (by omega : i < bs.length), expL, if_neg hb, addE, if_pos hh] at hinv
        refine ⟨(_, i + 1), ⟨by simp only; omega, hinv⟩, by simp only; omega, ?_⟩
        rw [IntWalk.i64_in ((i : Int) + 1) (by omega)]
        simp only [fin_all, imp_self, implies_true, true_and, and_true]
        exact ⟨by decide, by decide, by decide, by decide, by decide, rfl⟩
      · rw [drop_getD (by omega : i < bs.length), expL, if_neg hb, addE, if_neg hh] at hinv
        refine ⟨(_, i + 1), ⟨by simp only; omega, hinv⟩, by simp only; omega, ?_⟩
        rw [IntWalk.i64_in ((i : Int) + 1) (by omega)]
        simp only [fin_all, imp_self, implies_true, true_and, and_true]
        exact ⟨by decide, by decide, by decide, by decide, by decide, rfl⟩
      · obtain rfl : i = bs.length := by omega
        rw [List.drop_length, expL] at hinv
        rw [hinv] at h
        refine ⟨fun hh => ?_, fun hh => ?_⟩
        · rw [addE, if_pos hh] at h; exact ans_t2 h
        · rw [addE, if_neg hh] at h; exact ans_t2 h
  · exact h.1.elim
theorem exp_rng {s : Scl} (hs : chkS s = 0) {note : Int} (hn : 0 ≤ note ∧ note ≤ 139) : expF s.bs note = exE note s.bs ⟨0, 0, 0, 1⟩ ∧ 0 ≤ (expF s.bs note).1 ∧ (expF s.bs note).1 ≤ note * (expF s.bs note).2 ∧ 1 ≤ (expF s.bs note).2 ∧ (expF s.bs note).2 ≤ 262144 := by
  obtain ⟨h1, h2, h3⟩ := okS_len hs
  simp only [okS, Bool.and_eq_true] at h3
  have hok : (⟨0, 0, 0, 1⟩ : Exn).ok s.bs.length := by
    refine ⟨⟨by decide, by decide⟩, ⟨by decide, by decide⟩, ⟨by decide, by decide⟩, by decide, ?_⟩
    rw [if_pos rfl, Nat.add_zero, Int.one_mul]
    rcases (by omega : s.bs.length = 1 ∨ s.bs.length = 2 ∨ s.bs.length = 3) with e | e | e <;> rw [e] <;> decide
  obtain ⟨a, b, c, d, g⟩ := expL_is hn s.bs ⟨0, 0, 0, 1⟩ (-1) (by decide) h3.1.2 hok (fun h => absurd rfl h) (fun _ => rfl)
  rw [show expF s.bs note = expL note s.bs ⟨0, 0, 0, 1⟩ from rfl, a]
  exact ⟨rfl, b, c, d, g⟩
def diaC : Ctr := { alias := false, of := fun l => match l with
  | [.agg [.int .i64 d, .int .i64 c, .vs _ _ n sz get, .int .i64 mn, .int .i64 md, .int .i64 cn, .int .i64 cd], .int .i64 note] =>
    .ex (List (Int × Int)) fun bs => .pre (lsP 2 enc2 n sz get bs ∧ chkS ⟨d, c, bs, mn, md, cn, cd⟩ = 0 ∧ 0 ≤ note ∧ note ≤ 139) (.fin (.agg (enc2 (diaS ⟨d, c, bs, mn, md, cn, cd⟩ note))) [])
  | _ => noC }
theorem okS_rng {s : Scl} (h : chkS s = 0) : (1000 ≤ s.d ∧ s.d ≤ 500000) ∧ 0 ≤ s.c ∧ s.c < s.d := by
  have h3 := (okS_len h).2.2
  simp only [okS, inS, Bool.and_eq_true, decide_eq_true_eq] at h3
  omega
def K12 : Env := { ct := fun n => match n with | 35 => some expC | 36 => some prodC | _ => none, fn := fun _ => none, meth := fun _ _ => none }
theorem K12_ct35 : K12.ct 35 = some expC := rfl
theorem K12_ct36 : K12.ct 36 = some prodC := rfl
theorem K12_ok : EnvOk Try.prog K12 := by
  refine ⟨fun f c h => ?_, fun f vf h => ?_, (fun _ _ _ h => by cases h), by kernel_rfl, (fun _ h => by cases h)⟩
  · simp only [K12] at h
    split at h
    · cases h; exact ⟨exp_c, Try.f35, Try.func35, by kernel_rfl, by kernel_rfl⟩
    · cases h; exact ⟨prod_c, Try.f36, Try.func36, by kernel_rfl, by kernel_rfl⟩
    · cases h
  · cases h
theorem dia_c : diaC.ok Try.prog 21 := by
  refine contract Try.func21 v21_is K12_ok 500 diaC fun args k h => ?_
  simp only [diaC] at h
  split at h
  · rename_i d c tt z n sz get mn md cn cd note
    obtain ⟨bs, ⟨⟨rfl, rfl, hg⟩, hs, hnote⟩, h⟩ := h
    refine ⟨[.agg [.int .i64 d, .int .i64 c, .vs tt z bs.length 2 (fun k => enc2 (bs.getD k default)), .int .i64 mn, .int .i64 md, .int .i64 cn, .int .i64 cd], .int .i64 note], ⟨⟨⟨rfl, rfl⟩, ⟨rfl, rfl⟩, ⟨id, rfl, rfl, rfl, hg⟩, ⟨rfl, rfl⟩, ⟨rfl, rfl⟩, ⟨rfl, rfl⟩, ⟨rfl, rfl⟩, trivial⟩, ⟨rfl, rfl⟩, trivial⟩, ?_⟩
    dsimp only [v21, K12_ct35, K12_ct36, expC, prodC, enc2, go_sem, reduceIte]
    simp only [t_all, forall_const, ne_eq, implies_true, Nat.reduceAdd, Nat.reduceLeDiff, reduceCtorEq, Nat.reduceEqDiff]
    have hr := okS_rng hs
    simp only at hr
    obtain ⟨_, x1, x2, x3, x4⟩ := exp_rng hs hnote
    simp only at x1 x2 x3 x4
    have k1 : note * (expF bs note).2 ≤ 139 * 262144 := mul_le' hnote.2 x4 hnote.1 (by decide)
    have e1 : IntKind.i64.wrap (d - c) = d - c := IntWalk.i64_in _ (by omega)
    have e2 : IntKind.i64.wrap (0 - (expF bs note).1) = -(expF bs note).1 := by rw [IntWalk.i64_in _ (by omega)]; omega
    have hro : 0 ≤ (rootS (d - c) (expF bs note).1 (expF bs note).2).1 ∧ (rootS (d - c) (expF bs note).1 (expF bs note).2).1 ≤ 2000000 := by
      obtain ⟨K, g1, g2, _⟩ := rootS_is (m := (d - c).toNat) (num := (expF bs note).1.toNat) (den := (expF bs note).2.toNat) (by omega) (by omega) (by omega)
      rw [Int.toNat_of_nonneg (by omega), Int.toNat_of_nonneg (by omega), Int.toNat_of_nonneg (by omega)] at g2
      rw [g2]; omega
    refine ⟨bs, ⟨⟨rfl, rfl, fun k _ => leXL_self _⟩, ?_⟩, by decide, by decide, by decide, [(2, -(expF bs note).1)], ⟨?_, ?_, ⟨by omega, by omega⟩, by omega, by omega⟩, by decide, by decide, by decide, ?_⟩
    · have := (okS_len hs).2.1
      simp only at this; omega
    · rw [e2]
      refine ⟨rfl, rfl, fun k hk => ?_⟩
      obtain rfl : k = 0 := by omega
      exact leXL_self _
    · intro x hx
      rw [List.mem_singleton] at hx
      subst hx
      simp only [okT0, Bool.or_eq_false_iff, decide_eq_false_iff_not]
      omega
    · rw [e1]
      have e3 : (prodF (d - c) [(2, -(expF bs note).1)] (expF bs note).2).1 = (rootS (d - c) (expF bs note).1 (expF bs note).2).1 := rfl
      have e4 : (prodF (d - c) [(2, -(expF bs note).1)] (expF bs note).2).2.1 = (rootS (d - c) (expF bs note).1 (expF bs note).2).2 := rfl
      rw [e3, e4]
      unfold diaS at h
      simp only at h
      generalize rootS (d - c) (expF bs note).1 (expF bs note).2 = r at *
      have e5 : IntKind.i64.wrap (c + r.1) = c + r.1 := IntWalk.i64_in _ (by omega)
      have e6 : IntKind.i64.wrap (c + r.1 + 1) = c + r.1 + 1 := IntWalk.i64_in _ (by omega)
      rw [e5, e6]
      refine ⟨fun hh => ?_, fun hh => ?_⟩
      · rw [if_neg (by rw [hh]; decide)] at h
        exact ans_ii2 h
      · rw [if_pos hh] at h
        exact ans_ii2 h
  · exact h.1.elim
def diaFC : Ctr := { alias := false, of := fun l => match l with
  | [.agg [.int .i64 d, .int .i64 c, .vs _ _ n sz get, .int .i64 mn, .int .i64 md, .int .i64 cn, .int .i64 cd], .int .i64 note] =>
    .ex (List (Int × Int)) fun bs => .pre (lsP 2 enc2 n sz get bs ∧ n ≤ 9223372036854775807) (.fin (.tup [.agg (enc2 (diaF ⟨d, c, bs, mn, md, cn, cd⟩ note).1), .int .i64 (diaF ⟨d, c, bs, mn, md, cn, cd⟩ note).2]) [])
  | _ => .pre False (.fin (.tup [.agg [.int .i64 0, .int .i64 0], .int .i64 0]) []) }
theorem ask_0 {s : Scl} {low high : Int} (h : askS s low high = 0) : chkS s = 0 ∧ (firstN s ≤ low ∧ low ≤ 139) ∧ (firstN s ≤ high ∧ high ≤ 139) ∧ low ≤ high := by
  unfold askS at h
  split at h
  · rename_i h1; exact absurd h h1
  · rename_i h1
    split at h
    · cases h
    · rename_i h2
      simp only [Bool.or_eq_true, Bool.not_eq_true', hasS, Bool.and_eq_false_iff, decide_eq_false_iff_not, decide_eq_true_eq, not_or, Decidable.not_not] at h2
      exact ⟨by simpa using h1, by omega⟩
theorem first_rng {s : Scl} (h : chkS s = 0) : 0 ≤ firstN s ∧ firstN s ≤ 139 := by
  obtain ⟨h1, _, h3⟩ := okS_len h
  simp only [okS, Bool.and_eq_true] at h3
  have := ((benL_1 s.bs).1 h3.1.2 0 h1).1
  unfold firstN; omega
def K13 : Env := { ct := fun n => match n with | 20 => some askC | 21 => some diaC | _ => none, fn := fun _ => none, meth := fun _ _ => none }
theorem K13_ct20 : K13.ct 20 = some askC := rfl
theorem K13_ct21 : K13.ct 21 = some diaC := rfl
theorem K13_ok : EnvOk Try.prog K13 := by
  refine ⟨fun f c h => ?_, fun f vf h => ?_, (fun _ _ _ h => by cases h), by kernel_rfl, (fun _ h => by cases h)⟩
  · simp only [K13] at h
    split at h
    · cases h; exact ⟨ask_c, Try.f20, Try.func20, by kernel_rfl, by kernel_rfl⟩
    · cases h; exact ⟨dia_c, Try.f21, Try.func21, by kernel_rfl, by kernel_rfl⟩
    · cases h
  · cases h
theorem diaF_c : diaFC.ok Try.prog 8 := by
  refine contract Try.func8 v8_is K13_ok 300 diaFC fun args k h => ?_
  simp only [diaFC] at h
  split at h
  · rename_i d c tt z n sz get mn md cn cd note
    obtain ⟨bs, ⟨⟨rfl, rfl, hg⟩, hn⟩, h⟩ := h
    refine ⟨[.agg [.int .i64 d, .int .i64 c, .vs tt z bs.length 2 (fun k => enc2 (bs.getD k default)), .int .i64 mn, .int .i64 md, .int .i64 cn, .int .i64 cd], .int .i64 note], ⟨⟨⟨rfl, rfl⟩, ⟨rfl, rfl⟩, ⟨id, rfl, rfl, rfl, hg⟩, ⟨rfl, rfl⟩, ⟨rfl, rfl⟩, ⟨rfl, rfl⟩, ⟨rfl, rfl⟩, trivial⟩, ⟨rfl, rfl⟩, trivial⟩, ?_⟩
    dsimp only [v8, K13_ct20, K13_ct21, askC, diaC, enc2, go_sem, reduceIte]
    simp only [t_all, forall_const, ne_eq, implies_true, Nat.reduceAdd, Nat.reduceLeDiff, reduceCtorEq, Nat.reduceEqDiff]
    have self : lsP 2 enc2 bs.length 2 (fun k => [SV.int IntKind.i64 (bs.getD k default).fst, SV.int IntKind.i64 (bs.getD k default).snd]) bs := ⟨rfl, rfl, fun k _ => leXL_self _⟩
    refine ⟨bs, ⟨self, hn⟩, fun hc => ?_, fun hc => ?_⟩
    · rw [diaF, if_pos hc] at h; exact ans_iie h
    · rw [diaF, if_neg (by rw [hc]; decide)] at h
      obtain ⟨a1, a2, _⟩ := ask_0 hc
      have := first_rng a1
      refine ⟨bs, ⟨self, a1, by omega, a2.2⟩, ?_⟩
      (try simp only [t_all, forall_const, ne_eq, implies_true, Nat.reduceAdd, Nat.reduceLeDiff, reduceCtorEq, Nat.reduceEqDiff])
      exact ans_iie h
  · exact h.1.elim
end Go.Proofs.Ytmgfmkbniaepcaa
set_option linter.all false
namespace Go.Proofs.Ytmgfmkbniaepcaa
open Go Go.Vx
set_option maxRecDepth 100000
theorem fstL_spec {s : Scl} {p : Iv → Bool} : ∀ (f : Nat) (n : Int), 140 ≤ n + f → n ≤ 140 →
    ((fstL s p f n).2 = 0 ∧ n ≤ (fstL s p f n).1 ∧ (fstL s p f n).1 ≤ 139 ∧ p (diaS s (fstL s p f n).1) = true ∧ ∀ j, n ≤ j → j < (fstL s p f n).1 → p (diaS s j) = false) ∨
    (fstL s p f n = (0, 4) ∧ ∀ j, n ≤ j → j ≤ 139 → p (diaS s j) = false)
  | 0, n, h1, h2 => Or.inr ⟨rfl, fun j h3 h4 => by omega⟩
  | f + 1, n, h1, h2 => by
    rw [fstL]
    by_cases c : 139 < n
    · rw [if_pos c]
      exact Or.inr ⟨rfl, fun j h3 h4 => by omega⟩
    · rw [if_neg c]
      by_cases hp : p (diaS s n) = true
      · rw [if_pos hp]
        exact Or.inl ⟨rfl, Int.le_refl _, by simp only; omega, hp, fun j h3 h4 => by simp only at h4; omega⟩
      · rw [if_neg hp]
        have hp' : p (diaS s n) = false := by simpa using hp
        rcases fstL_spec (s := s) (p := p) f (n + 1) (by omega) (by omega) with ⟨k1, k2, k3, k4, k5⟩ | ⟨k1, k2⟩
        · refine Or.inl ⟨k1, by omega, k3, k4, fun j h3 h4 => ?_⟩
          by_cases e : j = n
          · rw [e]; exact hp'
          · exact k5 j (by omega) h4
        · refine Or.inr ⟨k1, fun j h3 h4 => ?_⟩
          by_cases e : j = n
          · rw [e]; exact hp'
          · exact k2 j (by omega) h4
theorem fstF_spec {s : Scl} {p : Iv → Bool} {n : Int} (h0 : 0 ≤ n) (h1 : n ≤ 140) :
    ((fstF s n p).2 = 0 ∧ n ≤ (fstF s n p).1 ∧ (fstF s n p).1 ≤ 139 ∧ p (diaS s (fstF s n p).1) = true ∧ ∀ j, n ≤ j → j < (fstF s n p).1 → p (diaS s j) = false) ∨
    (fstF s n p = (0, 4) ∧ ∀ j, n ≤ j → j ≤ 139 → p (diaS s j) = false) := fstL_spec 200 n (by omega) h1
theorem dia_le {d c n1 d1 n2 d2 : Int} (hd : d ≤ 500000 ∧ 0 ≤ c ∧ c < d) (h1 : 0 ≤ n1 ∧ n1 ≤ 139 * 262144 ∧ 1 ≤ d1 ∧ d1 ≤ 262144) (h2 : 0 ≤ n2 ∧ n2 ≤ 139 * 262144 ∧ 1 ≤ d2 ∧ d2 ≤ 262144) (h : d1 * d2 ≤ (n2 * d1 - n1 * d2) * 4096) :
    (rootS (d - c) n2 d2).1 ≤ (rootS (d - c) n1 d1).1 ∧ (if (rootS (d - c) n2 d2).2 = true then c + (rootS (d - c) n2 d2).1 else c + (rootS (d - c) n2 d2).1 + 1) ≤ (if (rootS (d - c) n1 d1).2 = true then c + (rootS (d - c) n1 d1).1 else c + (rootS (d - c) n1 d1).1 + 1) := by
  obtain ⟨m, rfl⟩ : ∃ m : Nat, d = c + m := ⟨(d - c).toNat, by omega⟩
  obtain ⟨a1, rfl⟩ : ∃ a : Nat, n1 = a := ⟨n1.toNat, by omega⟩
  obtain ⟨b1, rfl⟩ : ∃ a : Nat, d1 = a := ⟨d1.toNat, by omega⟩
  obtain ⟨a2, rfl⟩ : ∃ a : Nat, n2 = a := ⟨n2.toNat, by omega⟩
  obtain ⟨b2, rfl⟩ : ∃ a : Nat, d2 = a := ⟨d2.toNat, by omega⟩
  rw [show c + (m : Int) - c = m by omega]
  have h' : b1 * b2 + a1 * b2 * 4096 ≤ a2 * b1 * 4096 := by
    rw [Int.sub_mul] at h
    have e : ((b1 * b2 + a1 * b2 * 4096 : Nat) : Int) ≤ ((a2 * b1 * 4096 : Nat) : Int) := by
      simp only [Int.natCast_add, Int.natCast_mul]
      have : ((4096 : Nat) : Int) = 4096 := rfl
      rw [this]; omega
    exact Int.ofNat_le.1 e
  obtain ⟨f1, f2⟩ := rootS_fall (m := m) (n1 := a1) (d1 := b1) (n2 := a2) (d2 := b2) (by omega) (by omega) (by omega) (by omega) (by omega) h'
  refine ⟨f1, ?_⟩
  generalize rootS (m : Int) (a1 : Int) (b1 : Int) = R at *
  generalize rootS (m : Int) (a2 : Int) (b2 : Int) = T at *
  rcases Int.lt_or_eq_of_le f1 with hlt | heq
  · split <;> split <;> omega
  · simp only [f2 heq, Bool.false_eq_true, if_false]
    split <;> omega
theorem exp_bnd {s : Scl} (hs : chkS s = 0) {note : Int} (hn : 0 ≤ note ∧ note ≤ 139) : 0 ≤ (expF s.bs note).1 ∧ (expF s.bs note).1 ≤ 139 * 262144 ∧ 1 ≤ (expF s.bs note).2 ∧ (expF s.bs note).2 ≤ 262144 := by
  obtain ⟨_, h1, h2, h3, h4⟩ := exp_rng hs hn
  have : note * (expF s.bs note).2 ≤ 139 * 262144 := mul_le' hn.2 h4 hn.1 (by decide)
  omega
theorem dia_next {s : Scl} (hs : chkS s = 0) {note : Int} (h0 : firstN s ≤ note) (h1 : note < 139) : (diaS s (note + 1)).1 ≤ (diaS s note).1 ∧ (diaS s (note + 1)).2 ≤ (diaS s note).2 := by
  have hf := first_rng hs
  have hr := okS_rng hs
  obtain ⟨l1, l2, l3⟩ := okS_len hs
  simp only [okS, Bool.and_eq_true] at l3
  have e1 := (exp_rng hs (note := note) (by omega)).1
  have e2 := (exp_rng hs (note := note + 1) (by omega)).1
  have st := exE_step (note := note) s.bs ⟨0, 0, 0, 1⟩ (-1) (by decide) l3.1.2 (by decide) (by decide) fun _ => by
    unfold firstN at h0
    cases hb : s.bs with
    | nil => rw [hb] at l1; exact absurd l1 (by decide)
    | cons b t => rw [hb] at h0; exact ⟨b, t, rfl, h0⟩
  rw [← e1, ← e2] at st
  have hp1 := exp_bnd hs (note := note) (by omega)
  have hp2 := exp_bnd hs (note := note + 1) (by omega)
  have hpos : 1 * 1 ≤ (expF s.bs note).2 * (expF s.bs (note + 1)).2 := mul_le' hp1.2.2.1 hp2.2.2.1 (by decide) (by omega)
  obtain ⟨k1, k2⟩ := dia_le (d := s.d) (c := s.c) ⟨hr.1.2, hr.2.1, hr.2.2⟩ hp1 hp2 (by omega)
  unfold diaS
  simp only
  exact ⟨by omega, k2⟩
theorem dia_rng {s : Scl} (hs : chkS s = 0) {note : Int} (hn : 0 ≤ note ∧ note ≤ 139) : 0 ≤ (diaS s note).1 ∧ (diaS s note).1 ≤ (diaS s note).2 ∧ 1 ≤ (diaS s note).2 ∧ (diaS s note).2 ≤ 3000000 := by
  have hr := okS_rng hs
  have hb := exp_bnd hs hn
  obtain ⟨K, g1, g2, _, _, g5⟩ := rootS_is (m := (s.d - s.c).toNat) (num := (expF s.bs note).1.toNat) (den := (expF s.bs note).2.toNat) (by omega) (by omega) (by omega)
  rw [Int.toNat_of_nonneg (by omega), Int.toNat_of_nonneg (by omega), Int.toNat_of_nonneg (by omega)] at g2 g5
  unfold diaS
  simp only
  rw [g2]
  split
  · rename_i hx
    have := (g5 hx).1
    omega
  · omega
end Go.Proofs.Ytmgfmkbniaepcaa
set_option linter.all false
namespace Go.Proofs.Ytmgfmkbniaepcaa
open Go Go.Vx
set_option maxRecDepth 100000
set_option maxHeartbeats 4000000
def v14 : VF := { ntmps := 26, res := [.tmp 4, .tmp 5], body :=
 (.seq (.region [u1 2 .box [.tm 0],
 u1 4 .mov [.cn (.int .i64 0)],
 u1 5 .mov [.cn (.int .i64 0)]])
 (.seq (.seq (.region [u1 8 (.load true 7) [.tm 2],
 u1 9 .mov [.tm 1],
 u1 10 .mov [.tm 1],
 u1 11 (.call 20) [.tm 8, .tm 9, .tm 10],
 u1 6 .mov [.tm 11]])
 (.seq (.region [u1 12 .mov [.tm 6],
 u1 13 (.cmp .neq) [.tm 12, .cn (.int .i64 0)]])
 (.cond (.tm 13) (.seq (.region [u1 14 .mov [.tm 6],
 u1 4 .mov [.cn (.int .i64 0)],
 u1 5 .mov [.tm 14]])
 .ret)
  .skip)))
 (.seq (.region [u1 15 (.load true 7) [.tm 2],
 u1 16 .mov [.tm 1],
 u1 17 (.call 21) [.tm 15, .tm 16],
 u1 18 (.field false 0 1) [.tm 17],
 u1 7 (.alloc [(.int .i64 0)]) [],
 u0 (.store 1) [.tm 7, .tm 18]])
 (.seq (.region [u1 19 (.load true 7) [.tm 2],
 u1 20 .mov [.tm 1],
 u1 21 (.ari .add) [.tm 20, .cn (.int .i64 1)],
 u1 22 (.mkfn (.func 29) 0) [.tm 7],
 u1 23 (.call 28) [.tm 19, .tm 21, .tm 22],
 u1 24 (.ext 0) [.tm 23],
 u1 25 (.ext 1) [.tm 23],
 u1 4 .mov [.tm 24],
 u1 5 .mov [.tm 25]])
 .ret)))) }
theorem v14_is : vfunc Try.prog Try.f14 = some v14 := by kernel_rfl
def v29 : VF := { ntmps := 9, res := [.tmp 3], body :=
 (.seq (.region [u1 2 .box [.tm 0],
 u1 3 .mov [.cn (.bool false)]])
 (.seq (.region [u1 4 (.fieldAddr 1) [.tm 2],
 u1 5 (.load false 1) [.tm 4],
 u1 6 (.ari .mul) [.cn (.int .i64 2), .tm 5],
 u1 7 (.load false 1) [.tm 1],
 u1 8 (.cmp .leq) [.tm 6, .tm 7],
 u1 3 .mov [.tm 8]])
 .ret)) }
theorem v29_is : vfunc Try.prog Try.f29 = some v29 := by kernel_rfl
def v28 : VF := { ntmps := 19, res := [.cell 6 false 1, .cell 7 false 1], body :=
 (.seq (.region [u1 3 .box [.tm 0],
 u1 5 .box [.tm 2],
 u1 6 (.alloc [(.int .i64 0)]) [],
 u1 7 (.alloc [(.int .i64 0)]) []])
 (.seq (.seq (.region [u1 10 (.load true 7) [.tm 3],
 u1 11 .mov [.tm 1],
 u1 12 (.call 40) [.tm 10, .tm 11, .cn (.int .i64 139)]])
 (.block 0 (.rangeFn (.tm 12) [13, 14] (.seq (.region [u1 8 .mov [.tm 13]])
 (.region [u1 9 (.alloc [(.int .i64 0), (.int .i64 0)]) [],
 u0 (.store 2) [.tm 9, .tm 14]]))
 (.block 1 (.seq (.region [u1 15 (.load false 1) [.tm 5],
 u1 16 (.load true 2) [.tm 9],
 u1 17 .callv [.tm 15, .tm 16]])
 (.cond (.tm 17) (.seq (.region [u1 18 .mov [.tm 8],
 u0 (.store 1) [.tm 6, .tm 18],
 u0 (.store 1) [.tm 7, .cn (.int .i64 0)]])
 .ret)
  .skip))))))
 (.seq (.region [u0 (.store 1) [.tm 6, .cn (.int .i64 0)],
 u0 (.store 1) [.tm 7, .cn (.int .i64 4)]])
 .ret))) }
theorem v28_is : vfunc Try.prog Try.f28 = some v28 := by kernel_rfl
def v40 : VF := { ntmps := 8, res := [.tmp 6], body :=
 (.seq (.region [u1 3 .box [.tm 0],
 u1 4 .box [.tm 1],
 u1 5 .box [.tm 2],
 u1 6 .mov [.cn (.val .nilFunc)]])
 (.seq (.region [u1 7 (.mkfn (.func 53) 0) [.tm 4, .tm 5, .tm 3],
 u1 6 .mov [.tm 7]])
 .ret)) }
theorem v40_is : vfunc Try.prog Try.f40 = some v40 := by kernel_rfl
def v53 : VF := { ntmps := 19, res := [], body :=
 (.seq (.region [u1 6 (.load false 1) [.tm 1],
 u1 5 .mov [.tm 6]])
 (.block 0 (.loop (.seq (.seq (.region [u1 7 .mov [.tm 5],
 u1 8 (.load false 1) [.tm 2],
 u1 9 (.cmp .leq) [.tm 7, .tm 8]])
 (.cond (.tm 9) .skip
  (.exit 0)))
 (.seq (.block 1 (.seq (.region [u1 12 .mov [.tm 0],
 u1 13 .mov [.tm 5],
 u1 14 (.load true 7) [.tm 3],
 u1 15 .mov [.tm 5],
 u1 16 (.call 21) [.tm 14, .tm 15],
 u1 17 .callv [.tm 12, .tm 13, .tm 16],
 u1 18 .not [.tm 17]])
 (.cond (.tm 18) .ret
  .skip)))
 (.region [u1 10 .mov [.tm 5],
 u1 11 (.ari .add) [.tm 10, .cn (.int .i64 1)],
 u1 5 .mov [.tm 11]])))))) }
theorem v53_is : vfunc Try.prog Try.f53 = some v53 := by kernel_rfl
def v15 : VF := { ntmps := 48, res := [.tmp 6, .tmp 7], body :=
 (.seq (.region [u1 3 .box [.tm 0],
 u1 4 .box [.tm 1],
 u1 6 .mov [.cn (.int .i64 0)],
 u1 7 .mov [.cn (.int .i64 0)]])
 (.seq (.seq (.region [u1 13 (.load true 7) [.tm 3],
 u1 14 (.call 30) [.tm 13],
 u1 8 .mov [.tm 14]])
 (.seq (.region [u1 15 .mov [.tm 8],
 u1 16 (.cmp .neq) [.tm 15, .cn (.int .i64 0)]])
 (.cond (.tm 16) (.seq (.region [u1 17 .mov [.tm 8],
 u1 6 .mov [.cn (.int .i64 0)],
 u1 7 .mov [.tm 17]])
 .ret)
  .skip)))
 (.seq (.seq (.region [u1 18 (.load true 7) [.tm 4],
 u1 19 (.call 30) [.tm 18],
 u1 9 .mov [.tm 19]])
 (.seq (.region [u1 20 .mov [.tm 9],
 u1 21 (.cmp .neq) [.tm 20, .cn (.int .i64 0)]])
 (.cond (.tm 21) (.seq (.region [u1 22 .mov [.tm 9],
 u1 6 .mov [.cn (.int .i64 0)],
 u1 7 .mov [.tm 22]])
 .ret)
  .skip)))
 (.seq (.seq (.region [u1 23 (.load true 7) [.tm 3],
 u1 24 .mov [.tm 2],
 u1 25 (.call 31) [.tm 23, .tm 24],
 u1 26 .not [.tm 25]])
 (.cond (.tm 26) (.seq (.region [u1 6 .mov [.cn (.int .i64 0)],
 u1 7 .mov [.cn (.int .i64 2)]])
 .ret)
  .skip))
 (.seq (.region [u1 27 (.load true 7) [.tm 3],
 u1 28 .mov [.tm 2],
 u1 29 (.call 21) [.tm 27, .tm 28],
 u1 30 (.field false 0 1) [.tm 29],
 u1 10 (.alloc [(.int .i64 0)]) [],
 u0 (.store 1) [.tm 10, .tm 30]])
 (.seq (.draw [] [w1 32 (.load true 7) [.tm 4],
 w1 33 (.fieldAddr 2) [.tm 4],
 w1 34 (.load false 1) [.tm 33],
 w1 35 (.idxAddr 2) [.tm 34, .cn (.int .i64 0)],
 w1 36 (.fieldAddr 0) [.tm 35],
 w1 37 (.load false 1) [.tm 36],
 w1 38 (.mkfn (.func 32) 0) [.tm 10],
 w1 39 (.call 28) [.tm 32, .tm 37, .tm 38],
 w1 31 .mov [.tm 39],
 w1 40 (.ext 0) [.tm 31],
 w1 41 (.ext 1) [.tm 31],
 w1 11 .mov [.tm 40],
 w1 12 .mov [.tm 41]])
 (.seq (.seq (.region [u1 42 .mov [.tm 12],
 u1 43 (.cmp .neq) [.tm 42, .cn (.int .i64 0)]])
 (.cond (.tm 43) (.seq (.region [u1 44 .mov [.tm 12],
 u1 6 .mov [.cn (.int .i64 0)],
 u1 7 .mov [.tm 44]])
 .ret)
  .skip))
 (.seq (.region [u1 45 .mov [.tm 2],
 u1 46 .mov [.tm 11],
 u1 47 (.ari .sub) [.tm 45, .tm 46],
 u1 6 .mov [.tm 47],
 u1 7 .mov [.cn (.int .i64 0)]])
 .ret)))))))) }
theorem v15_is : vfunc Try.prog Try.f15 = some v15 := by kernel_rfl
def v32 : VF := { ntmps := 8, res := [.tmp 3], body :=
 (.seq (.region [u1 2 .box [.tm 0],
 u1 3 .mov [.cn (.bool false)]])
 (.seq (.region [u1 4 (.load false 1) [.tm 1],
 u1 5 (.fieldAddr 1) [.tm 2],
 u1 6 (.load false 1) [.tm 5],
 u1 7 (.cmp .geq) [.tm 4, .tm 6],
 u1 3 .mov [.tm 7]])
 .ret)) }
theorem v32_is : vfunc Try.prog Try.f32 = some v32 := by kernel_rfl
def halC : Ctr := { alias := false, of := fun l => match l with
  | [.agg [.int .i64 d, .int .i64 c, .vs _ _ n sz get, .int .i64 mn, .int .i64 md, .int .i64 cn, .int .i64 cd], .int .i64 note] =>
    .ex (List (Int × Int)) fun bs => .pre (lsP 2 enc2 n sz get bs ∧ n ≤ 9223372036854775807) (.fin (.tup [.int .i64 (halF ⟨d, c, bs, mn, md, cn, cd⟩ note).1, .int .i64 (halF ⟨d, c, bs, mn, md, cn, cd⟩ note).2]) [])
  | _ => noC }
def K20 : Env := { ct := fun n => match n with | 20 => some askC | 21 => some diaC | _ => none, fn := fun n => match n with | 28 => some v28 | 40 => some v40 | 53 => some v53 | 29 => some v29 | _ => none, meth := fun _ _ => none }
theorem K20_ct20 : K20.ct 20 = some askC := rfl
theorem K20_ct21 : K20.ct 21 = some diaC := rfl
theorem K20_ct28 : K20.ct 28 = none := rfl
theorem K20_fn28 : K20.fn 28 = some v28 := rfl
theorem K20_ct40 : K20.ct 40 = none := rfl
theorem K20_fn40 : K20.fn 40 = some v40 := rfl
theorem K20_ct53 : K20.ct 53 = none := rfl
theorem K20_fn53 : K20.fn 53 = some v53 := rfl
theorem K20_ct29 : K20.ct 29 = none := rfl
theorem K20_fn29 : K20.fn 29 = some v29 := rfl
theorem K20_ok : EnvOk Try.prog K20 := by
  refine ⟨fun f c h => ?_, fun f vf h => ?_, (fun _ _ _ h => by cases h), by kernel_rfl, (fun _ h => by cases h)⟩
  · simp only [K20] at h
    split at h
    · cases h; exact ⟨ask_c, Try.f20, Try.func20, by kernel_rfl, by kernel_rfl⟩
    · cases h; exact ⟨dia_c, Try.f21, Try.func21, by kernel_rfl, by kernel_rfl⟩
    · cases h
  · simp only [K20] at h
    split at h
    · cases h; exact ⟨Try.f28, Try.func28, v28_is, Try.f28, Try.func28, by kernel_rfl, by kernel_rfl⟩
    · cases h; exact ⟨Try.f40, Try.func40, v40_is, Try.f40, Try.func40, by kernel_rfl, by kernel_rfl⟩
    · cases h; exact ⟨Try.f53, Try.func53, v53_is, Try.f53, Try.func53, by kernel_rfl, by kernel_rfl⟩
    · cases h; exact ⟨Try.f29, Try.func29, v29_is, Try.f29, Try.func29, by kernel_rfl, by kernel_rfl⟩
    · cases h
theorem hal_c : halC.ok Try.prog 14 := by
  refine contract Try.func14 v14_is K20_ok 600 halC fun args k h => ?_
  simp only [halC] at h
  split at h
  · rename_i d c tt z n sz get mn md cn cd note
    obtain ⟨bs, ⟨⟨rfl, rfl, hg⟩, hn⟩, h⟩ := h
    refine ⟨[.agg [.int .i64 d, .int .i64 c, .vs tt z bs.length 2 (fun k => enc2 (bs.getD k default)), .int .i64 mn, .int .i64 md, .int .i64 cn, .int .i64 cd], .int .i64 note], ⟨⟨⟨rfl, rfl⟩, ⟨rfl, rfl⟩, ⟨id, rfl, rfl, rfl, hg⟩, ⟨rfl, rfl⟩, ⟨rfl, rfl⟩, ⟨rfl, rfl⟩, ⟨rfl, rfl⟩, trivial⟩, ⟨rfl, rfl⟩, trivial⟩, ?_⟩
    dsimp only [v14, K20_ct20, K20_ct21, askC, diaC, enc2, K20_ct28, K20_fn28, v28, K20_ct40, K20_fn40, v40, K20_ct53, K20_fn53, v53, K20_ct29, K20_fn29, v29, go_sem, reduceIte]
    simp only [t_all, forall_const, ne_eq, implies_true, Nat.reduceAdd, Nat.reduceLeDiff, reduceCtorEq, Nat.reduceEqDiff]
    have self : lsP 2 enc2 bs.length 2 (fun k => [SV.int IntKind.i64 (bs.getD k default).fst, SV.int IntKind.i64 (bs.getD k default).snd]) bs := ⟨rfl, rfl, fun k _ => leXL_self _⟩
    refine ⟨bs, ⟨self, hn⟩, fun hc => ?_, fun hc => ?_⟩
    · rw [halF, if_pos hc] at h; exact ans_t2 h
    · rw [halF, if_neg (by rw [hc]; decide)] at h
      obtain ⟨a1, a2, _⟩ := ask_0 hc
      have := first_rng a1
      refine ⟨bs, ⟨self, a1, by omega, a2.2⟩, ?_⟩
      (try dsimp only [K20_ct20, K20_ct21, askC, diaC, enc2, K20_ct28, K20_fn28, v28, K20_ct40, K20_fn40, v40, K20_ct53, K20_fn53, v53, K20_ct29, K20_fn29, v29, go_sem, reduceIte])
      (try simp only [t_all, forall_const, ne_eq, implies_true, Nat.reduceAdd, Nat.reduceLeDiff, reduceCtorEq, Nat.reduceEqDiff])
      intro l
      have hn1 : IntKind.i64.wrap (note + 1) = note + 1 := IntWalk.i64_in _ (by omega)
      rw [hn1]
      obtain ⟨S, hS⟩ : ∃ S, S = (⟨d, c, bs, mn, md, cn, cd⟩ : Scl) := ⟨_, rfl⟩
      obtain ⟨p, hp⟩ : ∃ p : Iv → Bool, p = fun x => decide (IntKind.i64.wrap (2 * x.2) ≤ (diaS S note).1) := ⟨_, rfl⟩
      obtain ⟨R, hR⟩ : ∃ R, R = fstF S (note + 1) p := ⟨_, rfl⟩
      have h : CSat (.fin (.tup [.int .i64 R.1, .int .i64 R.2]) []) k := by rw [hR, hp, hS]; exact h
      refine Loop.keep [0, 0, 0, 0] (Nat × Int) (fun s => [(5, .int .i64 s.2)]) (fun _ => []) [] (fun s => R = fstL S p s.1 s.2 ∧ 0 ≤ s.2 ∧ s.2 ≤ 140 ∧ 140 ≤ s.2 + s.1) (fun s => s.1) ?_ ?_
      · refine ⟨(200, note + 1), ⟨hR, by simp only; omega, by simp only; omega, by simp only; omega⟩, ?_⟩
        dsimp only [go_sem, reduceIte]
        simp only [fin_all, imp_self, implies_true, true_and, and_true]
        decide
      · rintro ⟨f, m⟩ ⟨hf, hm0, hm1, hmf⟩
        dsimp only at hf hm0 hm1 hmf
        dsimp only [K20_ct20, K20_ct21, askC, diaC, enc2, K20_ct28, K20_fn28, v28, K20_ct40, K20_fn40, v40, K20_ct53, K20_fn53, v53, K20_ct29, K20_fn29, v29, go_sem, reduceIte]
        simp only [t_all, forall_const, ne_eq, implies_true, Nat.reduceAdd, Nat.reduceLeDiff, reduceCtorEq, Nat.reduceEqDiff]
        refine ⟨fun hlt => ⟨bs, ⟨self, a1, hm0, hlt⟩, fun hq => ⟨by decide, by decide, ?_⟩, fun hq => ?_⟩, fun hge => ?_⟩
        · obtain ⟨g, rfl⟩ : ∃ g, f = g + 1 := ⟨f - 1, by omega⟩
          rw [fstL, if_neg (by omega), if_pos (by rw [hp, hS]; simp only; rw [decide_eq_true hq])] at hf
          rw [hf] at h
          exact ans_t2 h
        · obtain ⟨g, rfl⟩ : ∃ g, f = g + 1 := ⟨f - 1, by omega⟩
          rw [fstL, if_neg (by omega), if_neg (by rw [hp, hS]; simp only; rw [decide_eq_false hq]; decide)] at hf
          refine ⟨(g, m + 1), ⟨hf, by simp only; omega, by simp only; omega, by simp only; omega⟩, by simp only; omega, ?_⟩
          rw [IntWalk.i64_in (m + 1) (by omega)]
          simp only [fin_all, imp_self, implies_true, true_and, and_true]
          decide
        · have e : R = (0, 4) := by
            rw [hf]
            cases f with
            | zero => rfl
            | succ f => rw [fstL, if_pos (by omega)]
          rw [e] at h
          exact ⟨by decide, by decide, ans_t2 h⟩
  · exact h.1.elim
def widC : Ctr := { alias := false, of := fun l => match l with
  | [.agg [.int .i64 d, .int .i64 c, .vs _ _ n sz get, .int .i64 mn, .int .i64 md, .int .i64 cn, .int .i64 cd], .agg [.int .i64 d', .int .i64 c', .vs _ _ n' sz' get', .int .i64 mn', .int .i64 md', .int .i64 cn', .int .i64 cd'], .int .i64 note] =>
    .ex (List (Int × Int)) fun bs => .ex (List (Int × Int)) fun bt => .pre (lsP 2 enc2 n sz get bs ∧ n ≤ 9223372036854775807 ∧ lsP 2 enc2 n' sz' get' bt ∧ n' ≤ 9223372036854775807) (.fin (.tup [.int .i64 (widF ⟨d, c, bs, mn, md, cn, cd⟩ ⟨d', c', bt, mn', md', cn', cd'⟩ note).1, .int .i64 (widF ⟨d, c, bs, mn, md, cn, cd⟩ ⟨d', c', bt, mn', md', cn', cd'⟩ note).2]) [])
  | _ => noC }
def fstC : Ctr := { alias := false, of := fun l => match l with
  | [.agg [.int .i64 d, .int .i64 c, .vs _ _ n sz get, .int .i64 mn, .int .i64 md, .int .i64 cn, .int .i64 cd], .int .i64 low, .fn (.func g) [] [.xp _ [.int .i64 L]]] =>
    .ex (List (Int × Int)) fun bs => .pre (g = 32 ∧ lsP 2 enc2 n sz get bs ∧ chkS ⟨d, c, bs, mn, md, cn, cd⟩ = 0 ∧ 0 ≤ low ∧ low ≤ 140) (.fin (.tup [.int .i64 (fstF ⟨d, c, bs, mn, md, cn, cd⟩ low fun x => decide (x.2 ≤ L)).1, .int .i64 (fstF ⟨d, c, bs, mn, md, cn, cd⟩ low fun x => decide (x.2 ≤ L)).2]) [])
  | _ => noC }
def K22 : Env := { ct := fun n => match n with | 21 => some diaC | _ => none, fn := fun n => match n with | 40 => some v40 | 53 => some v53 | 32 => some v32 | _ => none, meth := fun _ _ => none }
theorem K22_ct21 : K22.ct 21 = some diaC := rfl
theorem K22_ct40 : K22.ct 40 = none := rfl
theorem K22_fn40 : K22.fn 40 = some v40 := rfl
theorem K22_ct53 : K22.ct 53 = none := rfl
theorem K22_fn53 : K22.fn 53 = some v53 := rfl
theorem K22_ct32 : K22.ct 32 = none := rfl
theorem K22_fn32 : K22.fn 32 = some v32 := rfl
theorem K22_ok : EnvOk Try.prog K22 := by
  refine ⟨fun f c h => ?_, fun f vf h => ?_, (fun _ _ _ h => by cases h), by kernel_rfl, (fun _ h => by cases h)⟩
  · simp only [K22] at h
    split at h
    · cases h; exact ⟨dia_c, Try.f21, Try.func21, by kernel_rfl, by kernel_rfl⟩
    · cases h
  · simp only [K22] at h
    split at h
    · cases h; exact ⟨Try.f40, Try.func40, v40_is, Try.f40, Try.func40, by kernel_rfl, by kernel_rfl⟩
    · cases h; exact ⟨Try.f53, Try.func53, v53_is, Try.f53, Try.func53, by kernel_rfl, by kernel_rfl⟩
    · cases h; exact ⟨Try.f32, Try.func32, v32_is, Try.f32, Try.func32, by kernel_rfl, by kernel_rfl⟩
    · cases h
theorem fst_c : fstC.ok Try.prog 28 := by
  refine contract Try.func28 v28_is K22_ok 600 fstC fun args k h => ?_
  simp only [fstC] at h
  split at h
  · rename_i d c tt z n sz get mn md cn cd low g t2 L
    obtain ⟨bs, ⟨rfl, ⟨rfl, rfl, hg⟩, hs, h0, h1⟩, h⟩ := h
    refine ⟨[.agg [.int .i64 d, .int .i64 c, .vs tt z bs.length 2 (fun k => enc2 (bs.getD k default)), .int .i64 mn, .int .i64 md, .int .i64 cn, .int .i64 cd], .int .i64 low, .fn (.func 32) [] [.xp t2 [.int .i64 L]]], ⟨⟨⟨rfl, rfl⟩, ⟨rfl, rfl⟩, ⟨id, rfl, rfl, rfl, hg⟩, ⟨rfl, rfl⟩, ⟨rfl, rfl⟩, ⟨rfl, rfl⟩, ⟨rfl, rfl⟩, trivial⟩, ⟨rfl, rfl⟩, by simp [le, leL, leXL_self, bnd_fn, bnd_xp, bndL_cons, bndL_nil, bnd_int], trivial⟩, ?_⟩
    have self : lsP 2 enc2 bs.length 2 (fun k => [SV.int IntKind.i64 (bs.getD k default).fst, SV.int IntKind.i64 (bs.getD k default).snd]) bs := ⟨rfl, rfl, fun k _ => leXL_self _⟩
    dsimp only [v28, K22_ct21, diaC, enc2, K22_ct40, K22_fn40, v40, K22_ct53, K22_fn53, v53, K22_ct32, K22_fn32, v32, go_sem, reduceIte]
    simp only [t_all, forall_const, ne_eq, implies_true, Nat.reduceAdd, Nat.reduceLeDiff, reduceCtorEq, Nat.reduceEqDiff]
    intro l
    obtain ⟨S, hS⟩ : ∃ S, S = (⟨d, c, bs, mn, md, cn, cd⟩ : Scl) := ⟨_, rfl⟩
    obtain ⟨p, hp⟩ : ∃ p : Iv → Bool, p = fun x => decide (x.2 ≤ L) := ⟨_, rfl⟩
    obtain ⟨R, hR⟩ : ∃ R, R = fstF S low p := ⟨_, rfl⟩
    have h : CSat (.fin (.tup [.int .i64 R.1, .int .i64 R.2]) []) k := by rw [hR, hp, hS]; exact h
    refine Loop.keep [0, 0, 0, 0] (Nat × Int) (fun s => [(5, .int .i64 s.2)]) (fun _ => []) [] (fun s => R = fstL S p s.1 s.2 ∧ 0 ≤ s.2 ∧ s.2 ≤ 140 ∧ 140 ≤ s.2 + s.1) (fun s => s.1) ?_ ?_
    · refine ⟨(200, low), ⟨hR, h0, h1, by simp only; omega⟩, ?_⟩
      dsimp only [go_sem, reduceIte]
      simp only [fin_all, imp_self, implies_true, true_and, and_true]
      decide
    · rintro ⟨f, m⟩ ⟨hf, hm0, hm1, hmf⟩
      dsimp only at hf hm0 hm1 hmf
      dsimp only [K22_ct21, diaC, enc2, K22_ct40, K22_fn40, v40, K22_ct53, K22_fn53, v53, K22_ct32, K22_fn32, v32, go_sem, reduceIte]
      simp only [t_all, forall_const, ne_eq, implies_true, Nat.reduceAdd, Nat.reduceLeDiff, reduceCtorEq, Nat.reduceEqDiff]
      refine ⟨fun hlt => ⟨bs, ⟨self, hs, hm0, hlt⟩, fun hq => ?_, fun hq => ?_⟩, fun hge => ?_⟩
      · obtain ⟨g, rfl⟩ : ∃ g, f = g + 1 := ⟨f - 1, by omega⟩
        rw [fstL, if_neg (by omega), if_pos (by rw [hp, hS]; simp only; rw [decide_eq_true hq])] at hf
        rw [hf] at h
        exact ans_t2 h
      · obtain ⟨g, rfl⟩ : ∃ g, f = g + 1 := ⟨f - 1, by omega⟩
        rw [fstL, if_neg (by omega), if_neg (by rw [hp, hS]; simp only; rw [decide_eq_false hq]; decide)] at hf
        refine ⟨(g, m + 1), ⟨hf, by simp only; omega, by simp only; omega, by simp only; omega⟩, by simp only; omega, ?_⟩
        rw [IntWalk.i64_in (m + 1) (by omega)]
        simp only [fin_all, imp_self, implies_true, true_and, and_true]
        decide
      · have e : R = (0, 4) := by
          rw [hf]
          cases f with
          | zero => rfl
          | succ f => rw [fstL, if_pos (by omega)]
        rw [e] at h
        exact ans_t2 h
  · exact h.1.elim
def K21 : Env := { ct := fun n => match n with | 30 => some chkSC | 31 => some hasC | 21 => some diaC | 28 => some fstC | _ => none, fn := fun _ => none, meth := fun _ _ => none }
theorem K21_ct30 : K21.ct 30 = some chkSC := rfl
theorem K21_ct31 : K21.ct 31 = some hasC := rfl
theorem K21_ct21 : K21.ct 21 = some diaC := rfl
theorem K21_ct28 : K21.ct 28 = some fstC := rfl
theorem K21_ok : EnvOk Try.prog K21 := by
  refine ⟨fun f c h => ?_, fun f vf h => ?_, (fun _ _ _ h => by cases h), by kernel_rfl, (fun _ h => by cases h)⟩
  · simp only [K21] at h
    split at h
    · cases h; exact ⟨chkS_c, Try.f30, Try.func30, by kernel_rfl, by kernel_rfl⟩
    · cases h; exact ⟨hasS_c, Try.f31, Try.func31, by kernel_rfl, by kernel_rfl⟩
    · cases h; exact ⟨dia_c, Try.f21, Try.func21, by kernel_rfl, by kernel_rfl⟩
    · cases h; exact ⟨fst_c, Try.f28, Try.func28, by kernel_rfl, by kernel_rfl⟩
    · cases h
  · cases h
theorem wid_c : widC.ok Try.prog 15 := by
  refine contract Try.func15 v15_is K21_ok 600 widC fun args k h => ?_
  simp only [widC] at h
  split at h
  · rename_i d c tt z n sz get mn md cn cd d' c' tt' z' n' sz' get' mn' md' cn' cd' note
    obtain ⟨bs, bt, ⟨⟨rfl, rfl, hg⟩, hn, ⟨rfl, rfl, hg'⟩, hn'⟩, h⟩ := h
    refine ⟨[.agg [.int .i64 d, .int .i64 c, .vs tt z bs.length 2 (fun k => enc2 (bs.getD k default)), .int .i64 mn, .int .i64 md, .int .i64 cn, .int .i64 cd], .agg [.int .i64 d', .int .i64 c', .vs tt' z' bt.length 2 (fun k => enc2 (bt.getD k default)), .int .i64 mn', .int .i64 md', .int .i64 cn', .int .i64 cd'], .int .i64 note], ⟨⟨⟨rfl, rfl⟩, ⟨rfl, rfl⟩, ⟨id, rfl, rfl, rfl, hg⟩, ⟨rfl, rfl⟩, ⟨rfl, rfl⟩, ⟨rfl, rfl⟩, ⟨rfl, rfl⟩, trivial⟩, ⟨⟨rfl, rfl⟩, ⟨rfl, rfl⟩, ⟨id, rfl, rfl, rfl, hg'⟩, ⟨rfl, rfl⟩, ⟨rfl, rfl⟩, ⟨rfl, rfl⟩, ⟨rfl, rfl⟩, trivial⟩, ⟨rfl, rfl⟩, trivial⟩, ?_⟩
    have self : lsP 2 enc2 bs.length 2 (fun k => [SV.int IntKind.i64 (bs.getD k default).fst, SV.int IntKind.i64 (bs.getD k default).snd]) bs := ⟨rfl, rfl, fun k _ => leXL_self _⟩
    have self' : lsP 2 enc2 bt.length 2 (fun k => [SV.int IntKind.i64 (bt.getD k default).fst, SV.int IntKind.i64 (bt.getD k default).snd]) bt := ⟨rfl, rfl, fun k _ => leXL_self _⟩
    dsimp only [v15, K21_ct30, K21_ct31, K21_ct21, chkSC, hasC, diaC, enc2, K21_ct28, fstC, Int.toNat_zero, go_sem, reduceIte]
    simp only [t_all, forall_const, ne_eq, implies_true, Nat.reduceAdd, Nat.reduceLeDiff, reduceCtorEq, Nat.reduceEqDiff]
    refine ⟨bs, ⟨self, hn⟩, fun hc => ?_, fun hc => ⟨bt, ⟨self', hn'⟩, fun hd => ?_, fun hd => ?_⟩⟩
    · rw [widF, if_pos hc] at h; exact ans_t2 h
    · rw [widF, if_neg (by rw [hc]; decide), if_pos hd] at h; exact ans_t2 h
    rw [widF, if_neg (by rw [hc]; decide), if_neg (by rw [hd]; decide)] at h
    refine ⟨bs, ⟨self, (okS_len hc).1, hn⟩, fun he => ?_, fun he => ?_⟩
    · rw [if_pos he] at h; exact ans_t2 h
    rw [if_neg (by rw [he]; decide)] at h
    have hfs := first_rng hc
    have hft := first_rng hd
    have hlt := (okS_len hd).1
    simp only at hlt
    have hnote := he
    simp only [hasS, Bool.and_eq_true, decide_eq_true_eq] at hnote
    refine ⟨bs, ⟨self, hc, by omega, by omega⟩, ?_⟩
    (try dsimp only [K21_ct30, K21_ct31, K21_ct21, chkSC, hasC, diaC, enc2, K21_ct28, fstC, Int.toNat_zero, go_sem, reduceIte])
    (try simp only [t_all, forall_const, ne_eq, implies_true, Nat.reduceAdd, Nat.reduceLeDiff, reduceCtorEq, Nat.reduceEqDiff])
    have h5 : 0 ≤ (bt.getD 0 default).fst ∧ (bt.getD 0 default).fst ≤ 139 := hft
    rw [show firstN ⟨d', c', bt, mn', md', cn', cd'⟩ = (bt.getD 0 default).1 from rfl] at h
    refine ⟨⟨by omega, by omega⟩, bt, ⟨self', hd, h5.1, by omega⟩, by decide, by decide, fun hx => ?_, fun hx => ?_⟩
    · rw [if_pos hx] at h; exact ans_t2 h
    · rw [if_neg (fun hh => hh hx)] at h
      have hq : 0 ≤ (fstF ⟨d', c', bt, mn', md', cn', cd'⟩ (bt.getD 0 default).fst fun x => decide (x.2 ≤ (diaS ⟨d, c, bs, mn, md, cn, cd⟩ note).1)).1 ∧ (fstF ⟨d', c', bt, mn', md', cn', cd'⟩ (bt.getD 0 default).fst fun x => decide (x.2 ≤ (diaS ⟨d, c, bs, mn, md, cn, cd⟩ note).1)).1 ≤ 139 := by
        rcases fstF_spec (s := ⟨d', c', bt, mn', md', cn', cd'⟩) (p := fun x => decide (x.2 ≤ (diaS ⟨d, c, bs, mn, md, cn, cd⟩ note).1)) h5.1 (by omega) with ⟨_, g2, g3, _⟩ | ⟨g1, _⟩
        · omega
        · rw [g1] at hx; cases hx
      rw [IntWalk.i64_in _ (by omega)]
      exact ans_t2 h
  · exact h.1.elim
end Go.Proofs.Ytmgfmkbniaepcaa
set_option linter.all false
namespace Go.Proofs.Ytmgfmkbniaepcaa
open Go Go.Vx
set_option maxRecDepth 100000
def exS : Scl := ⟨155500, 0, [(36, 16)], 1, 4, 1, 4⟩
theorem ex_36 : diaS exS 36 = (155500, 155500) := by decide +kernel
theorem ex_52 : diaS exS 52 = (77750, 77750) := by decide +kernel
theorem ex_68 : diaS exS 68 = (38875, 38875) := by decide +kernel
theorem ex_84 : diaS exS 84 = (19437, 19438) := by decide +kernel
theorem ex_51 : 77750 < (diaS exS 51).2 := by decide +kernel
theorem ex_ok : chkS exS = 0 := by decide +kernel
theorem ex_mouth : (sclF (piF (155500, 155500)).1 1 4) = ((122129, 122130), 0) ∧ sclF (122129, 122130) 1 4 = ((30532, 30533), 0) := by decide +kernel
end Go.Proofs.Ytmgfmkbniaepcaa
set_option linter.all false
namespace Go.Proofs.Ytmgfmkbniaepcaa
open Go Go.Vx
set_option maxRecDepth 100000
set_option maxHeartbeats 4000000
def v45 : VF := { ntmps := 9, res := [.tmp 2], body :=
 (.seq (.region [u1 2 .mov [.cn (.bool false)]])
 (.seq (.region [u1 3 .mov [.tm 0],
 u1 4 (.cmp .geq) [.tm 3, .cn (.int .i64 (-4611686018427387904))],
 u1 5 .mov [.tm 4],
 u2 6 5 true .mov [.tm 0],
 u2 7 5 true (.cmp .leq) [.tm 6, .cn (.int .i64 4611686018427387904)],
 u1 8 .and [.tm 5, .tm 7],
 u1 2 .mov [.tm 8]])
 .ret)) }
theorem v45_is : vfunc Try.prog Try.f45 = some v45 := by kernel_rfl
def v42 : VF := { ntmps := 36, res := [.tmp 2], body :=
 (.seq (.region [u1 2 .mov [.cn (.int .i64 0)]])
 (.seq (.seq (.region [u1 7 .mov [.tm 0],
 u1 8 .len [.tm 7],
 u1 9 .mov [.cn (.int .i64 0)]])
 (.block 0 (.loop (.seq (.region [u1 10 (.cmp .lss) [.tm 9, .tm 8]])
 (.seq (.cond (.tm 10) .skip
  (.exit 0))
 (.seq (.block 1 (.seq (.region [u1 11 (.idxAddr 2) [.tm 7, .tm 9],
 u1 12 (.load true 2) [.tm 11],
 u1 4 (.alloc [(.int .i64 0), (.int .i64 0)]) [],
 u0 (.store 2) [.tm 4, .tm 12]])
 (.seq (.region [u1 13 (.fieldAddr 0) [.tm 4],
 u1 14 (.load false 1) [.tm 13],
 u1 15 (.call 45) [.tm 14],
 u1 16 .not [.tm 15],
 u1 17 .mov [.tm 16],
 u2 18 17 false (.fieldAddr 1) [.tm 4],
 u2 19 17 false (.load false 1) [.tm 18],
 u2 20 17 false (.call 45) [.tm 19],
 u2 21 17 false .not [.tm 20],
 u1 22 .or [.tm 17, .tm 21]])
 (.cond (.tm 22) (.seq (.region [u1 2 .mov [.cn (.int .i64 7)]])
 .ret)
  .skip))))
 (.region [u1 23 (.ari .add) [.tm 9, .cn (.int .i64 1)],
 u1 9 .mov [.tm 23]])))))))
 (.seq (.seq (.region [u1 24 .mov [.tm 0],
 u1 25 .len [.tm 24],
 u1 26 .mov [.cn (.int .i64 0)]])
 (.block 2 (.loop (.seq (.region [u1 27 (.cmp .lss) [.tm 26, .tm 25]])
 (.seq (.cond (.tm 27) .skip
  (.exit 2))
 (.seq (.block 3 (.seq (.region [u1 28 (.idxAddr 2) [.tm 24, .tm 26],
 u1 29 (.load true 2) [.tm 28],
 u1 6 (.alloc [(.int .i64 0), (.int .i64 0)]) [],
 u0 (.store 2) [.tm 6, .tm 29]])
 (.seq (.region [u1 30 (.fieldAddr 0) [.tm 6],
 u1 31 (.load false 1) [.tm 30],
 u1 32 (.fieldAddr 1) [.tm 6],
 u1 33 (.load false 1) [.tm 32],
 u1 34 (.cmp .gtr) [.tm 31, .tm 33]])
 (.cond (.tm 34) (.seq (.region [u1 2 .mov [.cn (.int .i64 2)]])
 .ret)
  .skip))))
 (.region [u1 35 (.ari .add) [.tm 26, .cn (.int .i64 1)],
 u1 26 .mov [.tm 35]])))))))
 (.seq (.region [u1 2 .mov [.cn (.int .i64 0)]])
 .ret)))) }
theorem v42_is : vfunc Try.prog Try.f42 = some v42 := by kernel_rfl
def v57 : VF := { ntmps := 8, res := [.tmp 2], body :=
 (.seq (.region [u1 2 .mov [.cn (.int .u64 0)]])
 (.seq (.region [u1 3 .mov [.tm 0],
 u1 4 .mov [.tm 0],
 u1 5 .neg [.tm 4],
 u1 6 .max [.tm 3, .tm 5],
 u1 7 (.conv .u64) [.tm 6],
 u1 2 .mov [.tm 7]])
 .ret)) }
theorem v57_is : vfunc Try.prog Try.f57 = some v57 := by kernel_rfl
def v44 : VF := { ntmps := 29, res := [.cell 4 true 3], body :=
 (.seq (.region [u1 4 (.alloc [(.bool false), (.int .u64 0), (.int .u64 0)]) []])
 (.seq (.region [u1 8 .mov [.tm 0],
 u1 9 (.call 57) [.tm 8],
 u1 10 .mov [.tm 1],
 u1 11 (.call 57) [.tm 10],
 u1 12 (.call 56) [.tm 9, .tm 11],
 u1 7 .mov [.tm 12],
 u1 13 (.ext 0) [.tm 7],
 u1 14 (.ext 1) [.tm 7],
 u1 5 .mov [.tm 13],
 u1 6 .mov [.tm 14]])
 (.seq (.region [u1 15 .mov [.tm 0],
 u1 16 (.cmp .lss) [.tm 15, .cn (.int .i64 0)],
 u1 17 .mov [.tm 1],
 u1 18 (.cmp .lss) [.tm 17, .cn (.int .i64 0)],
 u1 19 (.eqb true) [.tm 16, .tm 18],
 u1 20 .mov [.tm 19],
 u2 21 20 true .mov [.tm 5],
 u2 22 20 true .mov [.tm 6],
 u2 23 20 true (.bit .or) [.tm 21, .tm 22],
 u2 24 20 true (.cmp .neq) [.tm 23, .cn (.int .u64 0)],
 u1 25 .and [.tm 20, .tm 24],
 u1 26 .mov [.tm 5],
 u1 27 .mov [.tm 6],
 u1 28 (.build [(.bool false), (.int .u64 0), (.int .u64 0)] [(0, 1), (1, 1), (2, 1)]) [.tm 25, .tm 26, .tm 27],
 u0 (.store 3) [.tm 4, .tm 28]])
 .ret))) }
theorem v44_is : vfunc Try.prog Try.f44 = some v44 := by kernel_rfl
def v54 : VF := { ntmps := 39, res := [.tmp 4], body :=
 (.seq (.region [u1 2 .box [.tm 0],
 u1 3 .box [.tm 1],
 u1 4 .mov [.cn (.bool false)]])
 (.seq (.seq (.region [u1 6 (.load true 3) [.tm 2],
 u1 7 (.load true 3) [.tm 3],
 u1 8 (.eqv false [false, true, true]) [.tm 6, .tm 7]])
 (.cond (.tm 8) (.seq (.region [u1 4 .mov [.cn (.bool false)]])
 .ret)
  .skip))
 (.seq (.seq (.region [u1 9 (.fieldAddr 0) [.tm 2],
 u1 10 (.load false 1) [.tm 9],
 u1 11 (.fieldAddr 0) [.tm 3],
 u1 12 (.load false 1) [.tm 11],
 u1 13 (.eqb true) [.tm 10, .tm 12]])
 (.cond (.tm 13) (.seq (.region [u1 14 (.fieldAddr 0) [.tm 2],
 u1 15 (.load false 1) [.tm 14],
 u1 4 .mov [.tm 15]])
 .ret)
  .skip))
 (.seq (.region [u1 16 (.fieldAddr 1) [.tm 2],
 u1 17 (.load false 1) [.tm 16],
 u1 18 (.fieldAddr 1) [.tm 3],
 u1 19 (.load false 1) [.tm 18],
 u1 20 (.cmp .lss) [.tm 17, .tm 19],
 u1 21 .mov [.tm 20],
 u2 22 21 false (.fieldAddr 1) [.tm 2],
 u2 23 21 false (.load false 1) [.tm 22],
 u2 24 21 false (.fieldAddr 1) [.tm 3],
 u2 25 21 false (.load false 1) [.tm 24],
 u2 26 21 false (.cmp .eql) [.tm 23, .tm 25],
 u2 27 21 false .mov [.tm 26],
 u2 28 27 true (.fieldAddr 2) [.tm 2],
 u2 29 27 true (.load false 1) [.tm 28],
 u2 30 27 true (.fieldAddr 2) [.tm 3],
 u2 31 27 true (.load false 1) [.tm 30],
 u2 32 27 true (.cmp .lss) [.tm 29, .tm 31],
 u2 33 21 false .and [.tm 27, .tm 32],
 u1 34 .or [.tm 21, .tm 33],
 u1 5 .mov [.tm 34]])
 (.seq (.region [u1 35 .mov [.tm 5],
 u1 36 (.fieldAddr 0) [.tm 2],
 u1 37 (.load false 1) [.tm 36],
 u1 38 (.eqb true) [.tm 35, .tm 37],
 u1 4 .mov [.tm 38]])
 .ret))))) }
theorem v54_is : vfunc Try.prog Try.f54 = some v54 := by kernel_rfl
def v55 : VF := { ntmps := 56, res := [.tmp 6, .tmp 7], body :=
 (.seq (.region [u1 3 .box [.tm 0],
 u1 6 .mov [.cn (.int .i64 0)],
 u1 7 .mov [.cn (.bool false)]])
 (.seq (.seq (.region [u1 10 (.fieldAddr 1) [.tm 3],
 u1 11 (.load false 1) [.tm 10],
 u1 12 .mov [.tm 1],
 u1 13 (.cmp .geq) [.tm 11, .tm 12]])
 (.cond (.tm 13) (.seq (.region [u1 6 .mov [.cn (.int .i64 0)],
 u1 7 .mov [.cn (.bool false)]])
 .ret)
  .skip))
 (.seq (.region [u1 15 (.fieldAddr 1) [.tm 3],
 u1 16 (.load false 1) [.tm 15],
 u1 17 (.fieldAddr 2) [.tm 3],
 u1 18 (.load false 1) [.tm 17],
 u1 19 .mov [.tm 1],
 u1 20 (.call 62) [.tm 16, .tm 18, .tm 19],
 u1 14 .mov [.tm 20],
 u1 21 (.ext 0) [.tm 14],
 u1 22 (.ext 1) [.tm 14],
 u1 8 .mov [.tm 21],
 u1 9 .mov [.tm 22]])
 (.seq (.seq (.region [u1 23 .mov [.tm 9],
 u1 24 (.cmp .neq) [.tm 23, .cn (.int .u64 0)],
 u1 25 .mov [.tm 24],
 u2 26 25 true .mov [.tm 2],
 u2 27 25 true (.fieldAddr 0) [.tm 3],
 u2 28 25 true (.load false 1) [.tm 27],
 u2 29 25 true (.eqb true) [.tm 26, .tm 28],
 u1 30 .and [.tm 25, .tm 29]])
 (.cond (.tm 30) (.region [u1 31 .mov [.tm 8],
 u1 32 (.ari .add) [.tm 31, .cn (.int .u64 1)],
 u1 8 .mov [.tm 32]])
  .skip))
 (.seq (.seq (.region [u1 33 .mov [.tm 8],
 u1 34 (.cmp .gtr) [.tm 33, .cn (.int .u64 4611686018427387904)],
 u1 35 .mov [.tm 34],
 u2 36 35 false .mov [.tm 8],
 u2 37 35 false (.cmp .eql) [.tm 36, .cn (.int .u64 0)],
 u2 38 35 false .mov [.tm 37],
 u2 39 38 true .mov [.tm 9],
 u2 40 38 true (.cmp .neq) [.tm 39, .cn (.int .u64 0)],
 u2 41 35 false .and [.tm 38, .tm 40],
 u2 42 35 false .mov [.tm 41],
 u2 43 42 true .mov [.tm 2],
 u2 44 42 true (.fieldAddr 0) [.tm 3],
 u2 45 42 true (.load false 1) [.tm 44],
 u2 46 42 true (.eqb true) [.tm 43, .tm 45],
 u2 47 35 false .and [.tm 42, .tm 46],
 u1 48 .or [.tm 35, .tm 47]])
 (.cond (.tm 48) (.seq (.region [u1 6 .mov [.cn (.int .i64 0)],
 u1 7 .mov [.cn (.bool false)]])
 .ret)
  .skip))
 (.seq (.seq (.region [u1 49 (.fieldAddr 0) [.tm 3],
 u1 50 (.load false 1) [.tm 49]])
 (.cond (.tm 50) (.seq (.region [u1 51 .mov [.tm 8],
 u1 52 (.conv .i64) [.tm 51],
 u1 53 .neg [.tm 52],
 u1 6 .mov [.tm 53],
 u1 7 .mov [.cn (.bool true)]])
 .ret)
  .skip))
 (.seq (.region [u1 54 .mov [.tm 8],
 u1 55 (.conv .i64) [.tm 54],
 u1 6 .mov [.tm 55],
 u1 7 .mov [.cn (.bool true)]])
 .ret))))))) }
theorem v55_is : vfunc Try.prog Try.f55 = some v55 := by kernel_rfl
def v43 : VF := { ntmps := 58, res := [.cell 4 true 2, .tmp 5], body :=
 (.seq (.region [u1 4 (.alloc [(.int .i64 0), (.int .i64 0)]) [],
 u1 5 .mov [.cn (.int .i64 0)]])
 (.seq (.draw [(6, .box [(.bool false), (.int .u64 0), (.int .u64 0)]), (7, .box [(.bool false), (.int .u64 0), (.int .u64 0)])] [w1 14 .mov [.tm 1],
 w1 15 (.idxAddr 3) [.tm 14, .cn (.int .i64 0)],
 w1 16 (.load true 3) [.tm 15],
 w1 17 .mov [.tm 1],
 w1 18 (.idxAddr 3) [.tm 17, .cn (.int .i64 0)],
 w1 19 (.load true 3) [.tm 18],
 ⟨u0 (.store 3) [.tm 6, .tm 16], [.tm 18]⟩,
 w0 (.store 3) [.tm 7, .tm 19]])
 (.seq (.seq (.region [u1 20 .mov [.tm 1],
 u1 21 (.slice 3 true false) [.tm 20, .cn (.int .i64 1)],
 u1 22 .len [.tm 21],
 u1 23 .mov [.cn (.int .i64 0)]])
 (.block 0 (.loop (.seq (.region [u1 24 (.cmp .lss) [.tm 23, .tm 22]])
 (.seq (.cond (.tm 24) .skip
  (.exit 0))
 (.seq (.block 1 (.seq (.region [u1 25 (.idxAddr 3) [.tm 21, .tm 23],
 u1 26 (.load true 3) [.tm 25],
 u1 9 (.alloc [(.bool false), (.int .u64 0), (.int .u64 0)]) [],
 u0 (.store 3) [.tm 9, .tm 26]])
 (.seq (.seq (.region [u1 27 (.load true 3) [.tm 9],
 u1 28 (.load true 3) [.tm 6],
 u1 29 (.call 54) [.tm 27, .tm 28]])
 (.cond (.tm 29) (.region [u1 30 (.load true 3) [.tm 9],
 u0 (.store 3) [.tm 6, .tm 30]])
  .skip))
 (.seq (.region [u1 31 (.load true 3) [.tm 7],
 u1 32 (.load true 3) [.tm 9],
 u1 33 (.call 54) [.tm 31, .tm 32]])
 (.cond (.tm 33) (.region [u1 34 (.load true 3) [.tm 9],
 u0 (.store 3) [.tm 7, .tm 34]])
  .skip)))))
 (.region [u1 35 (.ari .add) [.tm 23, .cn (.int .i64 1)],
 u1 23 .mov [.tm 35]])))))))
 (.seq (.region [u1 37 (.load true 3) [.tm 6],
 u1 38 .mov [.tm 0],
 u1 39 (.call 55) [.tm 37, .tm 38, .cn (.bool false)],
 u1 36 .mov [.tm 39],
 u1 40 (.ext 0) [.tm 36],
 u1 41 (.ext 1) [.tm 36],
 u1 10 .mov [.tm 40],
 u1 11 .mov [.tm 41]])
 (.seq (.region [u1 43 (.load true 3) [.tm 7],
 u1 44 .mov [.tm 0],
 u1 45 (.call 55) [.tm 43, .tm 44, .cn (.bool true)],
 u1 42 .mov [.tm 45],
 u1 46 (.ext 0) [.tm 42],
 u1 47 (.ext 1) [.tm 42],
 u1 12 .mov [.tm 46],
 u1 13 .mov [.tm 47]])
 (.seq (.seq (.region [u1 48 .mov [.tm 11],
 u1 49 .not [.tm 48],
 u1 50 .mov [.tm 49],
 u2 51 50 false .mov [.tm 13],
 u2 52 50 false .not [.tm 51],
 u1 53 .or [.tm 50, .tm 52]])
 (.cond (.tm 53) (.seq (.region [u1 54 (.build [(.int .i64 0), (.int .i64 0)] []) [],
 u0 (.store 2) [.tm 4, .tm 54],
 u1 5 .mov [.cn (.int .i64 7)]])
 .ret)
  .skip))
 (.seq (.region [u1 55 .mov [.tm 10],
 u1 56 .mov [.tm 12],
 u1 57 (.build [(.int .i64 0), (.int .i64 0)] [(0, 1), (1, 1)]) [.tm 55, .tm 56],
 u0 (.store 2) [.tm 4, .tm 57],
 u1 5 .mov [.cn (.int .i64 0)]])
 .ret))))))) }
theorem v43_is : vfunc Try.prog Try.f43 = some v43 := by kernel_rfl
def numC : Ctr := { alias := false, of := fun l => match l with | [.int .i64 n] => .fin (.bool (numOk n)) [] | _ => noC }
def ivlC : Ctr := { alias := false, of := fun a => match a with
  | [.vs _ _ n sz get] => .ex (List Iv) fun l => .pre (lsP 2 enc2 n sz get l ∧ l.length ≤ 1000000) (.fin (.int .i64 (ivE l)) [])
  | _ => noC }
def sizC : Ctr := { alias := false, of := fun l => match l with
  | [.int .i64 n] => .pre (-9223372036854775808 ≤ n ∧ n ≤ 9223372036854775807) (.fin (.int .u64 (n.natAbs : Int)) [])
  | _ => noC }
def timC : Ctr := { alias := false, of := fun l => match l with
  | [.int .i64 a, .int .i64 b] => .pre ((-9223372036854775808 ≤ a ∧ a ≤ 9223372036854775807) ∧ -9223372036854775808 ≤ b ∧ b ≤ 9223372036854775807) (.fin (.agg (longE (a * b))) [])
  | _ => noC }
def lessC : Ctr := { alias := false, of := fun l => match l with
  | [.agg [.bool n, .int .u64 h, .int .u64 lo], .agg [.bool n', .int .u64 h', .int .u64 lo']] => .ex Int fun x => .ex Int fun y => .pre (longP x n h lo ∧ longP y n' h' lo') (.fin (.bool (decide (x < y))) [])
  | _ => noC }
def overC : Ctr := { alias := false, of := fun l => match l with
  | [.agg [.bool n, .int .u64 h, .int .u64 lo], .int .u64 d, .bool up] => .ex Int fun x => .pre (longP x n h lo ∧ big x ∧ 0 < d ∧ d ≤ 18446744073709551615) (.fin (.tup [.int .i64 (rndF up x d).1, .bool (rndF up x d).2]) [])
  | _ => noC }
def spanC : Ctr := { alias := false, of := fun l => match l with
  | [.int .u64 d, .vs _ _ n sz get] => .ex Int fun x => .ex (List Int) fun r => .pre (lsP 3 longE n sz get (x :: r) ∧ r.length ≤ 1000 ∧ (∀ y ∈ x :: r, big y) ∧ 0 < d ∧ d ≤ 18446744073709551615) (.fin (.tup [.agg (enc2 (spanI d x r).1), .int .i64 (spanI d x r).2]) [])
  | _ => noC }
def P0 : Env := { ct := fun _ => none, fn := fun _ => none, meth := fun _ _ => none }
theorem P0_ok : EnvOk Try.prog P0 := by
  refine ⟨fun f c h => ?_, fun f vf h => ?_, (fun _ _ _ h => by cases h), by kernel_rfl, (fun _ h => by cases h)⟩
  · cases h
  · cases h
theorem num_ok : numC.ok Try.prog 45 := by
  refine contract Try.func45 v45_is P0_ok 100 numC fun args k h => ⟨args, ?_⟩
  simp only [numC] at h
  split at h
  · refine ⟨by simp [leL, le], ?_⟩
    (try dsimp only [v45, go_sem, reduceIte])
    (try simp only [t_all, forall_const, ne_eq, implies_true, Nat.reduceAdd, Nat.reduceLeDiff, reduceCtorEq, Nat.reduceEqDiff])
    exact ans_bool h
  · exact h.1.elim
theorem siz_ok : sizC.ok Try.prog 57 := by
  refine contract Try.func57 v57_is P0_ok 100 sizC fun args k h => ⟨args, ?_⟩
  simp only [sizC] at h
  split at h
  · rename_i n
    obtain ⟨⟨h0, h1⟩, h⟩ := h
    refine ⟨by simp [leL, le], ?_⟩
    (try dsimp only [v57, go_sem, reduceIte])
    (try simp only [t_all, forall_const, ne_eq, implies_true, Nat.reduceAdd, Nat.reduceLeDiff, reduceCtorEq, Nat.reduceEqDiff])
    have e : IntKind.u64.wrap (max n (IntKind.i64.wrap (0 - n))) = (n.natAbs : Int) := by
      rcases Int.lt_or_le n (-9223372036854775807) with h' | h'
      · obtain rfl : n = -9223372036854775808 := by omega
        decide
      · rw [IntWalk.i64_in _ (by omega), IntWalk.u64_in _ (by omega)]; omega
    rw [e]
    exact ans_int h
  · exact h.1.elim
def P1 : Env := { ct := fun n => match n with | 45 => some numC | 57 => some sizC | 56 => some mul64C | 62 => some div64C | _ => none, fn := fun _ => none, meth := fun _ _ => none }
theorem P1_ct45 : P1.ct 45 = some numC := rfl
theorem P1_ct57 : P1.ct 57 = some sizC := rfl
theorem P1_ct56 : P1.ct 56 = some mul64C := rfl
theorem P1_ct62 : P1.ct 62 = some div64C := rfl
theorem P1_ok : EnvOk Try.prog P1 := by
  refine ⟨fun f c h => ?_, fun f vf h => ?_, (fun _ _ _ h => by cases h), by kernel_rfl, (fun _ h => by cases h)⟩
  · simp only [P1] at h
    split at h
    · cases h; exact ⟨num_ok, Try.f45, Try.func45, by kernel_rfl, by kernel_rfl⟩
    · cases h; exact ⟨siz_ok, Try.f57, Try.func57, by kernel_rfl, by kernel_rfl⟩
    · cases h; exact ⟨mul64_ok, Try.f56, Try.func56, by kernel_rfl, by kernel_rfl⟩
    · cases h; exact ⟨div64_ok, Try.f62, Try.func62, by kernel_rfl, by kernel_rfl⟩
    · cases h
  · cases h
theorem ivl_ok : ivlC.ok Try.prog 42 := by
  refine contract Try.func42 v42_is P1_ok 400 ivlC fun args k h => ?_
  simp only [ivlC] at h
  split at h
  · rename_i tt z n sz get
    obtain ⟨l, ⟨⟨rfl, rfl, hg⟩, hmax⟩, h⟩ := h
    refine ⟨[.vs tt z l.length 2 (fun k => enc2 (l.getD k default))], by simpa [leL, le] using hg, ?_⟩
    (try dsimp only [v42, enc2, go_sem, reduceIte])
    (try simp only [t_all, forall_const, ne_eq, implies_true, Nat.reduceAdd, Nat.reduceLeDiff, reduceCtorEq, Nat.reduceEqDiff])
    refine Loop.keep [0, 6, 0, 0] Nat (fun i => [(9, .int .i64 i)]) (fun _ => []) [] (fun i => i ≤ l.length ∧ ∀ j, j < i → (numOk (l.getD j default).1 && numOk (l.getD j default).2) = true) (fun i => l.length - i) ?_ ?_
    · refine ⟨0, ⟨Nat.zero_le _, fun j h => by omega⟩, ?_⟩
      (try dsimp only [go_sem, reduceIte])
      simp only [fin_all, imp_self, implies_true, true_and, and_true]
      simp
    · rintro i ⟨hi, ha⟩
      (try dsimp only [P1_ct45, numC, enc2, Int.toNat_natCast, go_sem, reduceIte])
      (try simp only [t_all, forall_const, ne_eq, implies_true, Nat.reduceAdd, Nat.reduceLeDiff, reduceCtorEq, Nat.reduceEqDiff])
      refine ⟨fun hlt => ⟨⟨by omega, hlt⟩, fun hb => ans_int ?_, fun hb => ?_⟩, fun hge => ?_⟩
      · have e := ivE_bad (l := l) (i := i) (by omega) (by rw [← Bool.not_and, Bool.not_eq_true'] at hb; exact hb)
        rw [e] at h; exact h
      · rw [← Bool.not_and] at hb
        refine ⟨i + 1, ⟨by omega, fun j hj => ?_⟩, by omega, ?_⟩
        · rcases Nat.lt_or_ge j i with h' | h'
          · exact ha j h'
          · obtain rfl : j = i := by omega
            simpa using hb
        · have hw := w_succ (i := i) (n := l.length) (by omega) (by omega)
          simp only [hw, fin_all, imp_self, implies_true, true_and, and_true] <;> simp
      · obtain rfl : i = l.length := by omega
        refine Loop.keep [0, 23, 0, 0] Nat (fun i => [(26, .int .i64 i)]) (fun _ => []) [] (fun i => i ≤ l.length ∧ ∀ j, j < i → (l.getD j default).1 ≤ (l.getD j default).2) (fun i => l.length - i) ?_ ?_
        · refine ⟨0, ⟨Nat.zero_le _, fun j h => by omega⟩, ?_⟩
          (try dsimp only [go_sem, reduceIte])
          simp only [fin_all, imp_self, implies_true, true_and, and_true]
          simp
        · rintro i ⟨hi, hc⟩
          (try dsimp only [enc2, Int.toNat_natCast, go_sem, reduceIte])
          (try simp only [t_all, forall_const, ne_eq, implies_true, Nat.reduceAdd, Nat.reduceLeDiff, reduceCtorEq, Nat.reduceEqDiff])
          refine ⟨fun hlt => ⟨⟨by omega, hlt⟩, fun hb => ans_int ?_, fun hb => ?_⟩, fun hge => ?_⟩
          · have e := ivE_2 ha (i := i) (by omega) (by omega)
            rw [e] at h; exact h
          · refine ⟨i + 1, ⟨by omega, fun j hj => ?_⟩, by omega, ?_⟩
            · rcases Nat.lt_or_ge j i with h' | h'
              · exact hc j h'
              · obtain rfl : j = i := by omega
                omega
            · have hw := w_succ (i := i) (n := l.length) (by omega) (by omega)
              simp only [hw, fin_all, imp_self, implies_true, true_and, and_true] <;> simp
          · obtain rfl : i = l.length := by omega
            rw [ivE_0 ha hc] at h
            exact ans_int h
  · exact h.1.elim
theorem tim_ok : timC.ok Try.prog 44 := by
  refine contract Try.func44 v44_is P1_ok 200 timC fun args k h => ⟨args, ?_⟩
  simp only [timC] at h
  split at h
  · rename_i a b
    obtain ⟨⟨ha, hb⟩, h⟩ := h
    refine ⟨by simp [leL, le], ?_⟩
    (try dsimp only [v44, P1_ct57, P1_ct56, sizC, mul64C, go_sem, reduceIte])
    (try simp only [t_all, forall_const, ne_eq, implies_true, Nat.reduceAdd, Nat.reduceLeDiff, reduceCtorEq, Nat.reduceEqDiff])
    obtain ⟨P, hP⟩ : ∃ P, P = a.natAbs * b.natAbs := ⟨_, rfl⟩
    have hPb : P ≤ 9223372036854775808 * 9223372036854775808 := by rw [hP]; exact Nat.mul_le_mul (by omega) (by omega)
    have e0 : (a.natAbs : Int) * (b.natAbs : Int) = (P : Int) := by rw [hP]; exact (Int.natCast_mul _ _).symm
    have e1 : (P : Int) / 18446744073709551616 = ((P / 18446744073709551616 : Nat) : Int) := by omega
    have e2 : (P : Int) % 18446744073709551616 = ((P % 18446744073709551616 : Nat) : Int) := by omega
    rw [e0, e1, e2, bI_or (by omega) (by omega)]
    refine ⟨ha, hb, ⟨⟨by omega, by omega⟩, by omega, by omega⟩, by decide, by decide, ?_⟩
    have e3 : (a * b).natAbs = P := by rw [hP, Int.natAbs_mul]
    have e4 : (!(decide (a < 0) == decide (b < 0)) && !decide (((P / 18446744073709551616 ||| P % 18446744073709551616 : Nat) : Int) = 0)) = decide (a * b < 0) := by
      have z : decide (((P / 18446744073709551616 ||| P % 18446744073709551616 : Nat) : Int) = 0) = decide (P = 0) := by
        congr 1
        apply propext
        have := @Nat.or_eq_zero_iff (P / 18446744073709551616) (P % 18446744073709551616)
        omega
      rw [z]
      have hz : P = 0 ↔ a = 0 ∨ b = 0 := by rw [hP, Nat.mul_eq_zero]; omega
      rcases Int.lt_trichotomy a 0 with h1 | h1 | h1 <;> rcases Int.lt_trichotomy b 0 with h2 | h2 | h2
      · have := Int.mul_pos_of_neg_of_neg h1 h2
        simp [h1, h2]; omega
      · subst h2; simp [hz]
      · have := Int.mul_neg_of_neg_of_pos h1 h2
        have hb' : ¬ b < 0 := by omega
        simp [h1, hb', this, hz]; omega
      · subst h1; simp [hz]
      · subst h1; simp [hz]
      · subst h1; simp [hz]
      · have := Int.mul_neg_of_pos_of_neg h1 h2
        have ha' : ¬ a < 0 := by omega
        simp [h2, ha', this, hz]; omega
      · subst h2; simp [hz]
      · have := Int.mul_pos h1 h2
        have ha' : ¬ a < 0 := by omega
        have hb' : ¬ b < 0 := by omega
        simp [ha', hb']; omega
    rw [e4]
    have h : k (.agg (longE (a * b))) [] := h
    rw [longE, e3] at h
    exact ans_le (show k _ [] from h) (le_self (.agg [.bool (decide (a * b < 0)), .int .u64 ((P / 18446744073709551616 : Nat) : Int), .int .u64 ((P % 18446744073709551616 : Nat) : Int)]) ⟨trivial, trivial, trivial, trivial⟩) (fun _ => by simp [freshS, freshL])
  · exact h.1.elim
theorem less_ok : lessC.ok Try.prog 54 := by
  refine contract Try.func54 v54_is P1_ok 200 lessC fun args k h => ⟨args, ?_⟩
  simp only [lessC] at h
  split at h
  · rename_i n hi lo n' hi' lo'
    obtain ⟨x, y, ⟨⟨rfl, rfl, rfl⟩, rfl, rfl, rfl⟩, h⟩ := h
    refine ⟨by simp [leL, le], ?_⟩
    (try dsimp only [v54, go_sem, reduceIte])
    (try simp only [t_all, forall_const, ne_eq, implies_true, Nat.reduceAdd, Nat.reduceLeDiff, reduceCtorEq, Nat.reduceEqDiff])
    refine ⟨fun hc => ans_bool ?_, fun hc => ⟨fun hd => ans_bool ?_, fun hd => ⟨fun h1 h2 => by rw [decide_eq_false h1, decide_eq_true h2]; rfl, ans_bool ?_⟩⟩⟩
    · simp only [Bool.and_eq_true, Bool.and_true, decide_eq_true_eq, beq_iff_eq, decide_eq_decide] at hc
      have : x = y := by omega
      subst this
      have h : k (.bool (decide (x < x))) [] := h
      rw [decide_eq_false (Int.lt_irrefl x)] at h
      exact h
    · have : decide (x < y) = decide (x < 0) := by
        rw [beq_eq_false_iff_ne, ne_eq, decide_eq_decide] at hd
        rw [decide_eq_decide]; omega
      rw [← this]; exact h
    · have : (!((decide (((x.natAbs / 18446744073709551616 : Nat) : Int) < ((y.natAbs / 18446744073709551616 : Nat) : Int)) || decide (((x.natAbs / 18446744073709551616 : Nat) : Int) = ((y.natAbs / 18446744073709551616 : Nat) : Int)) && decide (((x.natAbs % 18446744073709551616 : Nat) : Int) < ((y.natAbs % 18446744073709551616 : Nat) : Int))) == decide (x < 0))) = decide (x < y) := by
        simp only [beq_iff_eq, decide_eq_decide] at hd
        simp only [Bool.and_eq_false_iff, Bool.and_true, decide_eq_false_iff_not, beq_eq_false_iff_ne, ne_eq, decide_eq_decide] at hc
        have e : (decide (((x.natAbs / 18446744073709551616 : Nat) : Int) < ((y.natAbs / 18446744073709551616 : Nat) : Int)) || decide (((x.natAbs / 18446744073709551616 : Nat) : Int) = ((y.natAbs / 18446744073709551616 : Nat) : Int)) && decide (((x.natAbs % 18446744073709551616 : Nat) : Int) < ((y.natAbs % 18446744073709551616 : Nat) : Int))) = decide (x.natAbs < y.natAbs) := by
          rw [Bool.eq_iff_iff]
          simp only [Bool.or_eq_true, Bool.and_eq_true, decide_eq_true_eq]
          omega
        rw [e]
        by_cases hx : x < 0
        · rw [decide_eq_true hx, Bool.eq_iff_iff, Bool.not_eq_true', beq_eq_false_iff_ne, ne_eq, decide_eq_true_eq, decide_eq_true_eq]; omega
        · rw [decide_eq_false hx, Bool.eq_iff_iff, Bool.not_eq_true', beq_eq_false_iff_ne, ne_eq, decide_eq_false_iff_not, decide_eq_true_eq]; omega
      rw [this]; exact h
  · exact h.1.elim
theorem over_ok : overC.ok Try.prog 55 := by
  refine contract Try.func55 v55_is P1_ok 200 overC fun args k h => ⟨args, ?_⟩
  simp only [overC] at h
  split at h
  · rename_i n hi lo d up
    obtain ⟨x, ⟨⟨rfl, rfl, rfl⟩, hbx, hd0, hd1⟩, h⟩ := h
    refine ⟨by simp [leL, le], ?_⟩
    (try dsimp only [v55, P1_ct62, div64C, go_sem, reduceIte])
    (try simp only [t_all, forall_const, ne_eq, implies_true, Nat.reduceAdd, Nat.reduceLeDiff, reduceCtorEq, Nat.reduceEqDiff])
    obtain ⟨d, rfl⟩ := Int.eq_ofNat_of_zero_le (by omega : 0 ≤ d)
    obtain ⟨m, hm⟩ : ∃ m, m = x.natAbs := ⟨_, rfl⟩
    have hT := rnd_abs (up := up) (x := x) (d := d) (by omega)
    have e0 : ((m / 18446744073709551616 : Nat) : Int) * 18446744073709551616 + ((m % 18446744073709551616 : Nat) : Int) = m := by omega
    have e1 : (m : Int) / (d : Int) = ((m / d : Nat) : Int) := (Int.natCast_ediv _ _).symm
    have e2 : (m : Int) % (d : Int) = ((m % d : Nat) : Int) := (Int.natCast_emod _ _).symm
    rw [← hm] at hT ⊢
    rw [e0, e1, e2]
    have hF : rndF up x d = rndB (nsg (decide (x < 0)) (m / d + bump up (decide (x < 0)) (m % d))) := by unfold rndF; rw [hT]
    have hfail : 4611686018427387904 < m / d + bump up (decide (x < 0)) (m % d) → rndF up x d = (0, false) := fun hh => by
      rw [hF, rndB, if_neg]
      have := nsg_abs (decide (x < 0)) (m / d + bump up (decide (x < 0)) (m % d))
      omega
    have hgood : m / d + bump up (decide (x < 0)) (m % d) ≤ 4611686018427387904 → rndF up x d = (nsg (decide (x < 0)) (m / d + bump up (decide (x < 0)) (m % d)), true) := fun hh => by
      rw [hF, rndB, if_pos]
      have := nsg_abs (decide (x < 0)) (m / d + bump up (decide (x < 0)) (m % d))
      omega
    have h : k (.tup [.int .i64 (rndF up x d).1, .bool (rndF up x d).2]) [] := h
    have fin : ∀ (t : Int) (b : Bool) (hp : List HO), rndF up x d = (t, b) → answers overC.alias k (.tup [.int .i64 t, .bool b]) hp := fun t b hp hh => by
      rw [hh] at h
      exact ans_le (show k _ [] from h) (le_self (.tup [.int .i64 t, .bool b]) ⟨trivial, trivial, trivial⟩) (fun _ => by simp [freshS, freshL])
    have hQ1 : ¬ (d : Int) ≤ ((m / 18446744073709551616 : Nat) : Int) → m / d < 18446744073709551616 := fun hc => by
      rw [Nat.div_lt_iff_lt_mul (by omega)]
      have h1 : m / 18446744073709551616 < d := by omega
      rw [Nat.div_lt_iff_lt_mul (by decide)] at h1
      rw [Nat.mul_comm]; exact h1
    have hQ2 : (d : Int) ≤ ((m / 18446744073709551616 : Nat) : Int) → 18446744073709551616 ≤ m / d := fun hc => by
      rw [Nat.le_div_iff_mul_le (by omega)]
      have h1 : d ≤ m / 18446744073709551616 := by omega
      rw [Nat.le_div_iff_mul_le (by decide)] at h1
      rw [Nat.mul_comm]; exact h1
    have hd0' : (0 : Int) < (d : Int) := hd0
    clear hT e1 e2
    generalize m / d = Q at *
    generalize m % d = R at *
    have ez : (!decide ((R : Int) = 0)) = decide (R ≠ 0) := by
      rw [← decide_not]; congr 1; exact propext (by omega)
    refine ⟨fun hc => fin _ _ _ (hfail ?_), fun hc => ⟨⟨⟨by omega, by omega⟩, by omega, by omega, by omega⟩, by decide, by decide, fun hb => ?_, fun hb => ?_⟩⟩
    · have := hQ2 hc
      omega
    · have hQ := hQ1 hc
      rw [ez] at hb ⊢
      have hbump : bump up (decide (x < 0)) (R) = 1 := by unfold bump; exact if_pos hb
      rw [hbump] at hfail hgood
      have hcond : ∀ w : Int, ((decide (4611686018427387904 < w) || decide (w = 0) && decide (R ≠ 0) && !(up == decide (x < 0))) = true ↔ 4611686018427387904 < w ∨ w = 0) := fun w => by
        rw [Bool.and_assoc, hb, Bool.and_true, Bool.or_eq_true, decide_eq_true_eq, decide_eq_true_eq]
      have hw : (4611686018427387904 < IntKind.u64.wrap ((Q : Int) + 1) ∨ IntKind.u64.wrap ((Q : Int) + 1) = 0) ↔ 4611686018427387904 < Q + 1 := by
        rw [u_mod]; omega
      refine ⟨fun h1 h2 => by rw [decide_eq_false h1, decide_eq_true h2]; rfl, fun h1 h2 => by rw [decide_eq_false h1, h2]; rfl, fun hcc => fin _ _ _ (hfail (hw.1 ((hcond _).1 hcc))), fun hcc => ?_⟩
      have hsm : Q + 1 ≤ 4611686018427387904 := by
        refine Nat.le_of_not_lt fun hh => ?_
        have := (hcond _).2 (hw.2 hh)
        rw [hcc] at this; cases this
      have hg := hgood hsm
      rw [IntWalk.u64_in _ (by omega)]
      refine ⟨fun hx => fin _ _ _ ?_, fun hx => fin _ _ _ ?_⟩
      · rw [hg, IntWalk.i64_in ((Q : Int) + 1) (by omega), IntWalk.i64_in _ (by omega)]
        unfold nsg
        simp only [hx, decide_true, if_true]
        congr 1 <;> omega
      · rw [hg, IntWalk.i64_in _ (by omega)]
        unfold nsg
        simp only [hx, decide_false, Bool.false_eq_true, if_false]
        rfl
    · have hQ := hQ1 hc
      rw [ez] at hb ⊢
      have hbump : bump up (decide (x < 0)) (R) = 0 := by unfold bump; exact if_neg (by rw [show (up != decide (x < 0)) = !(up == decide (x < 0)) from rfl, hb]; simp)
      rw [hbump, Nat.add_zero] at hfail hgood
      have hcond : ∀ w : Int, ((decide (4611686018427387904 < w) || decide (w = 0) && decide (R ≠ 0) && !(up == decide (x < 0))) = true ↔ 4611686018427387904 < w) := fun w => by
        rw [Bool.and_assoc, hb, Bool.and_false, Bool.or_false, decide_eq_true_eq]
      refine ⟨fun h1 h2 => by rw [decide_eq_false h1, decide_eq_true h2]; rfl, fun h1 h2 => by rw [decide_eq_false h1, h2]; rfl, fun hcc => fin _ _ _ (hfail (by have := (hcond _).1 hcc; omega)), fun hcc => ?_⟩
      have hsm : Q ≤ 4611686018427387904 := by
        refine Nat.le_of_not_lt fun hh => ?_
        have := (hcond (Q : Int)).2 (by omega)
        rw [hcc] at this; cases this
      have hg := hgood hsm
      refine ⟨fun hx => fin _ _ _ ?_, fun hx => fin _ _ _ ?_⟩
      · rw [hg, IntWalk.i64_in (Q : Int) (by omega), IntWalk.i64_in _ (by omega)]
        unfold nsg
        simp only [hx, decide_true, if_true]
        congr 1 <;> omega
      · rw [hg, IntWalk.i64_in _ (by omega)]
        unfold nsg
        simp only [hx, decide_false, Bool.false_eq_true, if_false]
  · exact h.1.elim
def P2 : Env := { ct := fun n => match n with | 45 => some numC | 54 => some lessC | 55 => some overC | _ => none, fn := fun _ => none, meth := fun _ _ => none }
theorem P2_ct54 : P2.ct 54 = some lessC := rfl
theorem P2_ct55 : P2.ct 55 = some overC := rfl
theorem P2_ok : EnvOk Try.prog P2 := by
  refine ⟨fun f c h => ?_, fun f vf h => ?_, (fun _ _ _ h => by cases h), by kernel_rfl, (fun _ h => by cases h)⟩
  · simp only [P2] at h
    split at h
    · cases h; exact ⟨num_ok, Try.f45, Try.func45, by kernel_rfl, by kernel_rfl⟩
    · cases h; exact ⟨less_ok, Try.f54, Try.func54, by kernel_rfl, by kernel_rfl⟩
    · cases h; exact ⟨over_ok, Try.f55, Try.func55, by kernel_rfl, by kernel_rfl⟩
    · cases h
  · cases h
theorem span_ok : spanC.ok Try.prog 43 := by
  refine contract Try.func43 v43_is P2_ok 400 spanC fun args k h => ?_
  simp only [spanC] at h
  split at h
  · rename_i d tt z n sz get
    obtain ⟨x, r, ⟨⟨rfl, rfl, hg⟩, hmax, hbig, hd0, hd1⟩, h⟩ := h
    refine ⟨[.int .u64 d, .vs tt z (x :: r).length 3 (fun k => longE ((x :: r).getD k default))], ⟨⟨rfl, rfl⟩, by simpa [le] using hg, trivial⟩, ?_⟩
    (try dsimp only [v43, longE, go_sem, reduceIte])
    (try simp only [t_all, forall_const, ne_eq, implies_true, Nat.reduceAdd, Nat.reduceLeDiff, reduceCtorEq, Nat.reduceEqDiff])
    have hlen : ((x :: r).length : Int) = r.length + 1 := by simp
    refine ⟨⟨by decide, by omega⟩, ⟨by decide, by omega⟩, ⟨by decide, by omega⟩, ?_⟩
    have hlen2 : (x :: r).length - (0 + 1) = r.length := by simp
    refine Loop.keep [0, 0, 2, 0, 0, 0, 13, 0] Nat (fun i => [(23, .int .i64 i)]) (fun i => [(1, .box (longE (lowI x (r.take i)))), (2, .box (longE (highI x (r.take i))))]) [] (fun i => i ≤ r.length) (fun i => r.length - i) ?_ ?_
    · refine ⟨0, Nat.zero_le _, ?_⟩
      (try dsimp only [longE, go_sem, reduceIte])
      simp only [fin_all, imp_self, implies_true, true_and, and_true]
      refine ⟨by simp, ?_, ?_⟩ <;> simp [lowI, highI] <;> rfl
    · rintro i hi
      (try dsimp only [P2_ct54, P2_ct55, lessC, overC, longE, Int.toNat_natCast, go_sem, reduceIte])
      (try simp only [t_all, forall_const, ne_eq, implies_true, Nat.reduceAdd, Nat.reduceLeDiff, reduceCtorEq, Nat.reduceEqDiff])
      have ey : (x :: r).getD (1 + i) default = r.getD i default := by rw [Nat.add_comm]; rfl
      have elen : (((x :: r).length - 1 : Nat) : Int) = r.length := by simp
      simp only [ey, elen]
      refine ⟨fun hlt => ⟨⟨by omega, by omega⟩, r.getD i default, lowI x (r.take i), ⟨longP_self _, longP_self _⟩, ?_⟩, fun hge => ?_⟩
      · have eL : lowI x (r.take (i + 1)) = if r.getD i default < lowI x (r.take i) then r.getD i default else lowI x (r.take i) := foldl_take_succ (by omega)
        have eH : highI x (r.take (i + 1)) = if highI x (r.take i) < r.getD i default then r.getD i default else highI x (r.take i) := foldl_take_succ (by omega)
        have hw := w_succ (i := i) (n := r.length) (by omega) (by omega)
        refine ⟨fun h1 => ⟨highI x (r.take i), r.getD i default, ⟨longP_self _, longP_self _⟩, fun h2 => ⟨i + 1, by omega, by omega, ?_⟩, fun h2 => ⟨i + 1, by omega, by omega, ?_⟩⟩,
          fun h1 => ⟨highI x (r.take i), r.getD i default, ⟨longP_self _, longP_self _⟩, fun h2 => ⟨i + 1, by omega, by omega, ?_⟩, fun h2 => ⟨i + 1, by omega, by omega, ?_⟩⟩⟩
        · simp only [eL, eH, if_pos h1, if_pos h2, hw, fin_all, imp_self, implies_true, true_and, and_true]
          simp
        · simp only [eL, eH, if_pos h1, if_neg h2, hw, fin_all, imp_self, implies_true, true_and, and_true]
          simp
        · simp only [eL, eH, if_neg h1, if_pos h2, hw, fin_all, imp_self, implies_true, true_and, and_true]
          simp
        · simp only [eL, eH, if_neg h1, if_neg h2, hw, fin_all, imp_self, implies_true, true_and, and_true]
          simp
      · obtain rfl : i = r.length := by omega
        rw [List.take_length]
        have hl := lowI_spec x r
        have hh := highI_spec x r
        refine ⟨lowI x r, ⟨longP_self _, hbig _ hl.1, hd0, hd1⟩, by decide, by decide, highI x r, ⟨longP_self _, hbig _ hh.1, hd0, hd1⟩, by decide, by decide, ?_⟩
        have h : k (.tup [.agg (enc2 (spanI d x r).1), .int .i64 (spanI d x r).2]) [] := h
        unfold spanI spanR at h
        refine ⟨fun hb => ?_, fun hb => ?_⟩
        · rw [if_neg (by rw [← Bool.not_and, Bool.not_eq_true'] at hb; rw [hb]; simp)] at h
          exact ans_le (show k _ [] from h) (le_self (.tup [.agg (enc2 (0, 0)), .int .i64 7]) ⟨⟨trivial, trivial, trivial⟩, trivial, trivial⟩) (fun _ => by simp [enc2, freshS, freshL])
        · rw [if_pos (by rw [← Bool.not_and, Bool.not_eq_false'] at hb; exact hb)] at h
          exact ans_le (show k _ [] from h) (le_self (.tup [.agg (enc2 ((rndF false (lowI x r) d).1, (rndF true (highI x r) d).1)), .int .i64 0]) ⟨⟨trivial, trivial, trivial⟩, trivial, trivial⟩) (fun _ => by simp [enc2, freshS, freshL])
  · exact h.1.elim
end Go.Proofs.Ytmgfmkbniaepcaa
set_option linter.all false
namespace Go.Proofs.Ytmgfmkbniaepcaa
open Go Go.Vx
set_option maxRecDepth 100000
set_option maxHeartbeats 4000000
def v34 : VF := { ntmps := 45, res := [.cell 6 true 2, .tmp 7], body :=
 (.seq (.region [u1 3 .box [.tm 0],
 u1 6 (.alloc [(.int .i64 0), (.int .i64 0)]) [],
 u1 7 .mov [.cn (.int .i64 0)]])
 (.seq (.region [u1 9 (.load true 2) [.tm 3],
 u1 10 (.buildSlice 2 1 [(.int .i64 0), (.int .i64 0)] [(0, 2)]) [.tm 9],
 u1 11 (.call 42) [.tm 10],
 u1 8 .mov [.tm 11]])
 (.seq (.block 0 (.seq (.region [u1 13 .mov [.tm 8],
 u1 14 (.cmp .neq) [.tm 13, .cn (.int .i64 0)],
 u1 12 .mov [.tm 14]])
 (.cond (.tm 12) (.seq (.region [u1 15 (.build [(.int .i64 0), (.int .i64 0)] []) [],
 u1 16 .mov [.tm 8],
 u0 (.store 2) [.tm 6, .tm 15],
 u1 7 .mov [.tm 16]])
 .ret)
  (.seq (.region [u1 18 .mov [.tm 2],
 u1 19 (.cmp .lss) [.tm 18, .cn (.int .i64 1)],
 u1 20 .mov [.tm 19],
 u2 21 20 false .mov [.tm 2],
 u2 22 20 false (.call 45) [.tm 21],
 u2 23 20 false .not [.tm 22],
 u1 24 .or [.tm 20, .tm 23],
 u1 25 .mov [.tm 24],
 u2 26 25 false .mov [.tm 1],
 u2 27 25 false (.call 45) [.tm 26],
 u2 28 25 false .not [.tm 27],
 u1 29 .or [.tm 25, .tm 28],
 u1 17 .mov [.tm 29]])
 (.cond (.tm 17) (.seq (.region [u1 30 (.build [(.int .i64 0), (.int .i64 0)] []) [],
 u0 (.store 2) [.tm 6, .tm 30],
 u1 7 .mov [.cn (.int .i64 2)]])
 .ret)
  .skip)))))
 (.seq (.draw [] [w1 31 .mov [.tm 2],
 w1 32 (.conv .u64) [.tm 31],
 w1 33 (.fieldAddr 0) [.tm 3],
 w1 34 (.load false 1) [.tm 33],
 w1 35 .mov [.tm 1],
 w1 37 (.fieldAddr 1) [.tm 3],
 w1 38 (.load false 1) [.tm 37],
 w1 39 .mov [.tm 1],
 w1 36 (.call 44) [.tm 34, .tm 35],
 w1 40 (.call 44) [.tm 38, .tm 39],
 w1 41 (.buildSlice 3 2 [(.bool false), (.int .u64 0), (.int .u64 0)] [(0, 3), (3, 3)]) [.tm 36, .tm 40],
 w1 42 (.call 43) [.tm 32, .tm 41],
 w1 43 (.ext 0) [.tm 42],
 w1 44 (.ext 1) [.tm 42],
 w0 (.store 2) [.tm 6, .tm 43],
 w1 7 .mov [.tm 44]])
 .ret)))) }
theorem v34_is : vfunc Try.prog Try.f34 = some v34 := by kernel_rfl
def v33 : VF := { ntmps := 28, res := [.cell 2 true 2, .tmp 3], body :=
 (.seq (.region [u1 1 .box [.tm 0],
 u1 2 (.alloc [(.int .i64 0), (.int .i64 0)]) [],
 u1 3 .mov [.cn (.int .i64 0)]])
 (.seq (.seq (.region [u1 5 (.load true 2) [.tm 1],
 u1 6 (.buildSlice 2 1 [(.int .i64 0), (.int .i64 0)] [(0, 2)]) [.tm 5],
 u1 7 (.call 42) [.tm 6],
 u1 4 .mov [.tm 7]])
 (.seq (.region [u1 8 .mov [.tm 4],
 u1 9 (.cmp .neq) [.tm 8, .cn (.int .i64 0)]])
 (.cond (.tm 9) (.seq (.region [u1 10 (.build [(.int .i64 0), (.int .i64 0)] []) [],
 u1 11 .mov [.tm 4],
 u0 (.store 2) [.tm 2, .tm 10],
 u1 3 .mov [.tm 11]])
 .ret)
  .skip)))
 (.seq (.draw [] [w1 12 (.fieldAddr 0) [.tm 1],
 w1 13 (.load false 1) [.tm 12],
 w1 15 (.fieldAddr 0) [.tm 1],
 w1 16 (.load false 1) [.tm 15],
 w1 18 (.fieldAddr 1) [.tm 1],
 w1 19 (.load false 1) [.tm 18],
 w1 21 (.fieldAddr 1) [.tm 1],
 w1 22 (.load false 1) [.tm 21],
 w1 14 (.call 44) [.tm 13, .cn (.int .i64 3141592653589793238)],
 w1 17 (.call 44) [.tm 16, .cn (.int .i64 3141592653589793239)],
 w1 20 (.call 44) [.tm 19, .cn (.int .i64 3141592653589793238)],
 w1 23 (.call 44) [.tm 22, .cn (.int .i64 3141592653589793239)],
 w1 24 (.buildSlice 3 4 [(.bool false), (.int .u64 0), (.int .u64 0)] [(0, 3), (3, 3), (6, 3), (9, 3)]) [.tm 14, .tm 17, .tm 20, .tm 23],
 w1 25 (.call 43) [.cn (.int .u64 1000000000000000000), .tm 24],
 w1 26 (.ext 0) [.tm 25],
 w1 27 (.ext 1) [.tm 25],
 w0 (.store 2) [.tm 2, .tm 26],
 w1 3 .mov [.tm 27]])
 .ret))) }
theorem v33_is : vfunc Try.prog Try.f33 = some v33 := by kernel_rfl
def ivoC (f : Iv → Iv × Int) : Ctr := { alias := false, of := fun a => match a with
  | [.agg [.int .i64 x, .int .i64 y]] => .fin (.tup [.agg (enc2 (f (x, y)).1), .int .i64 (f (x, y)).2]) []
  | _ => noC }
def piC := ivoC piF
def sclC : Ctr := { alias := false, of := fun a => match a with
  | [.agg [.int .i64 x, .int .i64 y], .int .i64 n, .int .i64 d] => .fin (.tup [.agg (enc2 (sclF (x, y) n d).1), .int .i64 (sclF (x, y) n d).2]) []
  | _ => noC }
theorem ans_iv {k : SV → List HO → Prop} {al : Bool} {hp : List HO} {r : Iv × Int} (h : k (.tup [.agg (enc2 r.1), .int .i64 r.2]) []) : answers al k (.tup [.agg [.int .i64 r.1.1, .int .i64 r.1.2], .int .i64 r.2]) hp :=
  ans_le (show k _ [] from h) (le_self (.tup [.agg (enc2 r.1), .int .i64 r.2]) ⟨⟨trivial, trivial, trivial⟩, trivial, trivial⟩) (fun _ => by simp [enc2, freshS, freshL])
theorem big_mul {a b : Int} (ha : -9223372036854775808 ≤ a ∧ a ≤ 9223372036854775808) (hb : -9223372036854775808 ≤ b ∧ b ≤ 9223372036854775808) : big (a * b) := by
  unfold big
  rw [Int.natAbs_mul]
  have := Nat.mul_le_mul (show a.natAbs ≤ 9223372036854775808 by omega) (show b.natAbs ≤ 9223372036854775808 by omega)
  omega
def P4 : Env := { ct := fun n => match n with | 45 => some numC | 42 => some ivlC | 44 => some timC | 55 => some overC | 43 => some spanC | _ => none, fn := fun _ => none, meth := fun _ _ => none }
theorem P4_ct45 : P4.ct 45 = some numC := rfl
theorem P4_ct42 : P4.ct 42 = some ivlC := rfl
theorem P4_ct44 : P4.ct 44 = some timC := rfl
theorem P4_ct43 : P4.ct 43 = some spanC := rfl
theorem P4_ok : EnvOk Try.prog P4 := by
  refine ⟨fun f c h => ?_, fun f vf h => ?_, (fun _ _ _ h => by cases h), by kernel_rfl, (fun _ h => by cases h)⟩
  · simp only [P4] at h
    split at h
    · cases h; exact ⟨num_ok, Try.f45, Try.func45, by kernel_rfl, by kernel_rfl⟩
    · cases h; exact ⟨ivl_ok, Try.f42, Try.func42, by kernel_rfl, by kernel_rfl⟩
    · cases h; exact ⟨tim_ok, Try.f44, Try.func44, by kernel_rfl, by kernel_rfl⟩
    · cases h; exact ⟨over_ok, Try.f55, Try.func55, by kernel_rfl, by kernel_rfl⟩
    · cases h; exact ⟨span_ok, Try.f43, Try.func43, by kernel_rfl, by kernel_rfl⟩
    · cases h
  · cases h
theorem pi_ok : piC.ok Try.prog 33 := by
  refine contract Try.func33 v33_is P4_ok 200 piC fun args k h => ⟨args, ?_⟩
  simp only [piC, ivoC] at h
  split at h
  · rename_i x y
    refine ⟨by simp [leL, le], ?_⟩
    (try dsimp only [v33, P4_ct42, P4_ct44, P4_ct43, ivlC, timC, spanC, longE, enc2, go_sem, reduceIte])
    (try simp only [t_all, forall_const, ne_eq, implies_true, Nat.reduceAdd, Nat.reduceLeDiff, reduceCtorEq, Nat.reduceEqDiff])
    have h : k (.tup [.agg (enc2 (piF (x, y)).1), .int .i64 (piF (x, y)).2]) [] := h
    refine ⟨by decide, [(x, y)], ⟨⟨rfl, rfl, fun k hk => match k, hk with | 0, _ => leXL_self _⟩, by simp⟩, fun hc => ?_, fun hc => ?_⟩
    · rw [piF, if_pos hc] at h
      exact ans_iv (r := errI (ivE [(x, y)])) h
    · obtain ⟨h1, h2, h3⟩ := ivE1 hc
      dsimp only at h1 h2 h3
      rw [piF, if_neg (by rw [hc]; simp)] at h
      dsimp only at h
      refine ⟨⟨⟨by omega, by omega⟩, by omega, by omega⟩, ⟨⟨by omega, by omega⟩, by omega, by omega⟩, ⟨⟨by omega, by omega⟩, by omega, by omega⟩, ⟨⟨by omega, by omega⟩, by omega, by omega⟩, by decide,
        x * 3141592653589793238, [x * 3141592653589793239, y * 3141592653589793238, y * 3141592653589793239], ⟨⟨rfl, rfl, fun k hk => match k, hk with | 0, _ => leXL_self _ | 1, _ => leXL_self _ | 2, _ => leXL_self _ | 3, _ => leXL_self _⟩, by simp, ?_, by decide, by decide⟩, by decide, by decide, ans_iv h⟩
      intro p hp
      simp only [List.mem_cons, List.not_mem_nil, or_false] at hp
      rcases hp with rfl | rfl | rfl | rfl <;> exact big_mul (by omega) (by omega)
  · exact h.1.elim
theorem scl_ok : sclC.ok Try.prog 34 := by
  refine contract Try.func34 v34_is P4_ok 200 sclC fun args k h => ⟨args, ?_⟩
  simp only [sclC] at h
  split at h
  · rename_i x y n d
    refine ⟨by simp [leL, le], ?_⟩
    (try dsimp only [v34, P4_ct42, P4_ct45, P4_ct44, P4_ct43, ivlC, numC, timC, spanC, longE, enc2, go_sem, reduceIte])
    (try simp only [t_all, forall_const, ne_eq, implies_true, Nat.reduceAdd, Nat.reduceLeDiff, reduceCtorEq, Nat.reduceEqDiff])
    have h : k (.tup [.agg (enc2 (sclF (x, y) n d).1), .int .i64 (sclF (x, y) n d).2]) [] := h
    refine ⟨by decide, [(x, y)], ⟨⟨rfl, rfl, fun k hk => match k, hk with | 0, _ => leXL_self _⟩, by simp⟩, ?_⟩
    refine ⟨fun hc => ?_, fun hc => ?_⟩
    · rw [sclF, if_pos hc] at h
      exact ans_iv (r := errI (ivE [(x, y)])) h
    · obtain ⟨h1, h2, h3⟩ := ivE1 hc
      dsimp only at h1 h2 h3
      rw [sclF, if_neg (by rw [hc]; simp)] at h
      dsimp only at h
      have hnd := numOk_iff (x := d)
      have hnn := numOk_iff (x := n)
      have hcond : (decide (d < 1) || !numOk d || !numOk n) = true ↔ (d < 1 ∨ 4611686018427387904 < d ∨ n < -4611686018427387904 ∨ 4611686018427387904 < n) := by
        rw [Bool.or_eq_true, Bool.or_eq_true, decide_eq_true_eq, Bool.not_eq_true', Bool.not_eq_true', Bool.eq_false_iff, Bool.eq_false_iff, ne_eq, ne_eq, hnd, hnn]
        omega
      refine ⟨fun hb => ?_, fun hb => ?_⟩
      · rw [if_pos (hcond.1 hb)] at h
        exact ans_iv (r := errI 2) h
      · have hb' : ¬ (d < 1 ∨ 4611686018427387904 < d ∨ n < -4611686018427387904 ∨ 4611686018427387904 < n) := fun hh => by
          have := hcond.2 hh
          rw [hb] at this; cases this
        rw [if_neg hb'] at h
        rw [IntWalk.u64_in d (by omega)]
        refine ⟨⟨⟨by omega, by omega⟩, by omega, by omega⟩, ⟨⟨by omega, by omega⟩, by omega, by omega⟩, by decide,
          x * n, [y * n], ⟨⟨rfl, rfl, fun k hk => match k, hk with | 0, _ => leXL_self _ | 1, _ => leXL_self _⟩, by simp, ?_, by omega, by omega⟩, by decide, by decide, ans_iv h⟩
        intro p hp
        simp only [List.mem_cons, List.not_mem_nil, or_false] at hp
        rcases hp with rfl | rfl <;> exact big_mul (by omega) (by omega)
  · exact h.1.elim
end Go.Proofs.Ytmgfmkbniaepcaa
set_option linter.all false
namespace Go.Proofs.Ytmgfmkbniaepcaa
open Go Go.Vx
set_option maxRecDepth 100000
set_option maxHeartbeats 4000000
def v17 : VF := { ntmps := 47, res := [.cell 4 true 2, .cell 5 true 2, .tmp 6], body :=
 (.seq (.region [u1 2 .box [.tm 0],
 u1 4 (.alloc [(.int .i64 0), (.int .i64 0)]) [],
 u1 5 (.alloc [(.int .i64 0), (.int .i64 0)]) [],
 u1 6 .mov [.cn (.int .i64 0)]])
 (.seq (.seq (.region [u1 10 (.load true 7) [.tm 2],
 u1 11 .mov [.tm 1],
 u1 12 .mov [.tm 1],
 u1 13 (.call 20) [.tm 10, .tm 11, .tm 12],
 u1 7 .mov [.tm 13]])
 (.seq (.region [u1 14 .mov [.tm 7],
 u1 15 (.cmp .neq) [.tm 14, .cn (.int .i64 0)]])
 (.cond (.tm 15) (.seq (.region [u1 16 (.build [(.int .i64 0), (.int .i64 0)] []) [],
 u1 17 (.build [(.int .i64 0), (.int .i64 0)] []) [],
 u1 18 .mov [.tm 7],
 u0 (.store 2) [.tm 4, .tm 16],
 u0 (.store 2) [.tm 5, .tm 17],
 u1 6 .mov [.tm 18]])
 .ret)
  .skip)))
 (.seq (.region [u1 20 (.load true 7) [.tm 2],
 u1 21 .mov [.tm 1],
 u1 22 (.call 21) [.tm 20, .tm 21],
 u1 23 (.call 33) [.tm 22],
 u1 19 .mov [.tm 23],
 u1 24 (.ext 0) [.tm 19],
 u1 25 (.ext 1) [.tm 19],
 u1 8 (.alloc [(.int .i64 0), (.int .i64 0)]) [],
 u0 (.store 2) [.tm 8, .tm 24],
 u1 9 .mov [.tm 25]])
 (.seq (.region [u1 27 (.load true 2) [.tm 8],
 u1 28 (.fieldAddr 3) [.tm 2],
 u1 29 (.load false 1) [.tm 28],
 u1 30 (.fieldAddr 4) [.tm 2],
 u1 31 (.load false 1) [.tm 30],
 u1 32 (.call 34) [.tm 27, .tm 29, .tm 31],
 u1 26 .mov [.tm 32],
 u1 33 (.ext 0) [.tm 26],
 u1 34 (.ext 1) [.tm 26],
 u0 (.store 2) [.tm 4, .tm 33]])
 (.seq (.region [u1 36 (.load true 2) [.tm 4],
 u1 37 (.fieldAddr 5) [.tm 2],
 u1 38 (.load false 1) [.tm 37],
 u1 39 (.fieldAddr 6) [.tm 2],
 u1 40 (.load false 1) [.tm 39],
 u1 41 (.call 34) [.tm 36, .tm 38, .tm 40],
 u1 35 .mov [.tm 41],
 u1 42 (.ext 0) [.tm 35],
 u1 43 (.ext 1) [.tm 35],
 u0 (.store 2) [.tm 5, .tm 42],
 u1 6 .mov [.tm 43]])
 (.seq (.draw [] [w1 44 (.load true 2) [.tm 4],
 w1 45 (.load true 2) [.tm 5],
 w1 46 .mov [.tm 6],
 ⟨u0 (.store 2) [.tm 4, .tm 44], [.tm 5]⟩,
 w0 (.store 2) [.tm 5, .tm 45],
 w1 6 .mov [.tm 46]])
 .ret)))))) }
theorem v17_is : vfunc Try.prog Try.f17 = some v17 := by kernel_rfl
def v18 : VF := { ntmps := 4, res := [.cell 0 true 7], body :=
 (.seq (.region [u1 0 (.alloc [(.int .i64 0), (.int .i64 0), .nil, (.int .i64 0), (.int .i64 0), (.int .i64 0), (.int .i64 0)]) []])
 (.seq (.region [u1 1 (.build [(.int .i64 0), (.int .i64 0)] [(0, 1), (1, 1)]) [.cn (.int .i64 36), .cn (.int .i64 16)],
 u1 2 (.buildSlice 2 1 [(.int .i64 0), (.int .i64 0)] [(0, 2)]) [.tm 1],
 u1 3 (.build [(.int .i64 0), (.int .i64 0), .nil, (.int .i64 0), (.int .i64 0), (.int .i64 0), (.int .i64 0)] [(0, 1), (2, 1), (3, 1), (4, 1), (5, 1), (6, 1)]) [.cn (.int .i64 155500), .tm 2, .cn (.int .i64 1), .cn (.int .i64 4), .cn (.int .i64 1), .cn (.int .i64 4)],
 u0 (.store 7) [.tm 0, .tm 3]])
 .ret)) }
theorem v18_is : vfunc Try.prog Try.f18 = some v18 := by kernel_rfl
def v19 : VF := { ntmps := 24, res := [.tmp 6], body :=
 (.seq (.region [u1 6 .mov [.cn (.bool false)]])
 (.seq (.region [u1 10 (.call 18) [],
 u1 11 .mov [.tm 0],
 u1 12 (.call 8) [.tm 10, .tm 11],
 u1 9 .mov [.tm 12],
 u1 13 (.ext 0) [.tm 9],
 u1 14 (.ext 1) [.tm 9],
 u1 7 (.alloc [(.int .i64 0), (.int .i64 0)]) [],
 u0 (.store 2) [.tm 7, .tm 13],
 u1 8 .mov [.tm 14]])
 (.seq (.region [u1 15 .mov [.tm 8],
 u1 16 (.cmp .eql) [.tm 15, .cn (.int .i64 0)],
 u1 17 .mov [.tm 16],
 u2 18 17 true (.load true 2) [.tm 7],
 u2 19 17 true .mov [.tm 1],
 u2 20 17 true .mov [.tm 2],
 u2 21 17 true (.build [(.int .i64 0), (.int .i64 0)] [(0, 1), (1, 1)]) [.tm 19, .tm 20],
 u2 22 17 true (.eqv false [true, true]) [.tm 18, .tm 21],
 u1 23 .and [.tm 17, .tm 22],
 u1 6 .mov [.tm 23]])
 .ret))) }
theorem v19_is : vfunc Try.prog Try.f19 = some v19 := by kernel_rfl
def v7 : VF := { ntmps := 76, res := [.tmp 0], body :=
 (.seq (.region [u1 0 .mov [.cn (.bool false)]])
 (.seq (.region [u1 11 (.call 18) [],
 u1 12 (.call 17) [.tm 11, .cn (.int .i64 36)],
 u1 10 .mov [.tm 12],
 u1 13 (.ext 0) [.tm 10],
 u1 14 (.ext 1) [.tm 10],
 u1 15 (.ext 2) [.tm 10],
 u1 1 (.alloc [(.int .i64 0), (.int .i64 0)]) [],
 u1 2 (.alloc [(.int .i64 0), (.int .i64 0)]) [],
 u0 (.store 2) [.tm 1, .tm 13],
 u0 (.store 2) [.tm 2, .tm 14],
 u1 3 .mov [.tm 15]])
 (.seq (.region [u1 17 (.call 18) [],
 u1 18 (.call 14) [.tm 17, .cn (.int .i64 36)],
 u1 16 .mov [.tm 18],
 u1 19 (.ext 0) [.tm 16],
 u1 20 (.ext 1) [.tm 16],
 u1 4 .mov [.tm 19],
 u1 5 .mov [.tm 20]])
 (.seq (.region [u1 22 (.call 18) [],
 u1 23 (.call 18) [],
 u1 24 (.call 15) [.tm 22, .tm 23, .cn (.int .i64 52)],
 u1 21 .mov [.tm 24],
 u1 25 (.ext 0) [.tm 21],
 u1 26 (.ext 1) [.tm 21],
 u1 6 .mov [.tm 25],
 u1 7 .mov [.tm 26]])
 (.seq (.region [u1 28 (.call 18) [],
 u1 29 (.call 8) [.tm 28, .cn (.int .i64 35)],
 u1 27 .mov [.tm 29],
 u1 30 (.ext 0) [.tm 27],
 u1 31 (.ext 1) [.tm 27],
 u1 8 (.alloc [(.int .i64 0), (.int .i64 0)]) [],
 u0 (.store 2) [.tm 8, .tm 30],
 u1 9 .mov [.tm 31]])
 (.seq (.region [u1 32 (.call 19) [.cn (.int .i64 36), .cn (.int .i64 155500), .cn (.int .i64 155500)],
 u1 33 .mov [.tm 32],
 u2 34 33 true (.call 19) [.cn (.int .i64 52), .cn (.int .i64 77750), .cn (.int .i64 77750)],
 u1 35 .and [.tm 33, .tm 34],
 u1 36 .mov [.tm 35],
 u2 37 36 true (.call 19) [.cn (.int .i64 68), .cn (.int .i64 38875), .cn (.int .i64 38875)],
 u1 38 .and [.tm 36, .tm 37],
 u1 39 .mov [.tm 38],
 u2 40 39 true (.call 19) [.cn (.int .i64 84), .cn (.int .i64 19437), .cn (.int .i64 19438)],
 u1 41 .and [.tm 39, .tm 40],
 u1 42 .mov [.tm 41],
 u2 43 42 true .mov [.tm 3],
 u2 44 42 true (.cmp .eql) [.tm 43, .cn (.int .i64 0)],
 u1 45 .and [.tm 42, .tm 44],
 u1 46 .mov [.tm 45],
 u2 47 46 true (.load true 2) [.tm 1],
 u2 48 46 true (.build [(.int .i64 0), (.int .i64 0)] [(0, 1), (1, 1)]) [.cn (.int .i64 122129), .cn (.int .i64 122130)],
 u2 49 46 true (.eqv false [true, true]) [.tm 47, .tm 48],
 u1 50 .and [.tm 46, .tm 49],
 u1 51 .mov [.tm 50],
 u2 52 51 true (.load true 2) [.tm 2],
 u2 53 51 true (.build [(.int .i64 0), (.int .i64 0)] [(0, 1), (1, 1)]) [.cn (.int .i64 30532), .cn (.int .i64 30533)],
 u2 54 51 true (.eqv false [true, true]) [.tm 52, .tm 53],
 u1 55 .and [.tm 51, .tm 54],
 u1 56 .mov [.tm 55],
 u2 57 56 true .mov [.tm 5],
 u2 58 56 true (.cmp .eql) [.tm 57, .cn (.int .i64 0)],
 u1 59 .and [.tm 56, .tm 58],
 u1 60 .mov [.tm 59],
 u2 61 60 true .mov [.tm 4],
 u2 62 60 true (.cmp .eql) [.tm 61, .cn (.int .i64 52)],
 u1 63 .and [.tm 60, .tm 62],
 u1 64 .mov [.tm 63],
 u2 65 64 true .mov [.tm 7],
 u2 66 64 true (.cmp .eql) [.tm 65, .cn (.int .i64 0)],
 u1 67 .and [.tm 64, .tm 66],
 u1 68 .mov [.tm 67],
 u2 69 68 true .mov [.tm 6],
 u2 70 68 true (.cmp .eql) [.tm 69, .cn (.int .i64 0)],
 u1 71 .and [.tm 68, .tm 70],
 u1 72 .mov [.tm 71],
 u2 73 72 true .mov [.tm 9],
 u2 74 72 true (.cmp .eql) [.tm 73, .cn (.int .i64 2)],
 u1 75 .and [.tm 72, .tm 74],
 u1 0 .mov [.tm 75]])
 .ret)))))) }
theorem v7_is : vfunc Try.prog Try.f7 = some v7 := by kernel_rfl
theorem ex_hi : ∀ j : Nat, j ≤ 15 → 77750 < (diaS exS (51 - j)).2
  | 0, _ => ex_51
  | j + 1, h => by
    have h1 := ex_hi j (by omega)
    have h2 := (dia_next ex_ok (note := 51 - ((j + 1 : Nat) : Int)) (by show (36 : Int) ≤ _; omega) (by omega)).2
    rw [show 51 - ((j + 1 : Nat) : Int) + 1 = 51 - (j : Int) by omega] at h2
    omega
theorem ex_hi' {n : Int} (h0 : 36 ≤ n) (h1 : n ≤ 51) : 77750 < (diaS exS n).2 := by
  have := ex_hi (51 - n).toNat (by omega)
  rw [show 51 - (((51 - n).toNat : Nat) : Int) = n by omega] at this
  exact this
theorem ex_fst {n : Int} (h0 : 36 ≤ n) (h1 : n ≤ 52) {p : Iv → Bool} (hp : ∀ x : Iv, 0 ≤ x.2 → x.2 ≤ 3000000 → (p x = true ↔ x.2 ≤ 77750)) : fstF exS n p = (52, 0) := by
  have h52 : p (diaS exS 52) = true := by rw [ex_52]; exact (hp _ (by decide) (by decide)).2 (by decide)
  rcases fstF_spec (s := exS) (p := p) (n := n) (by omega) (by omega) with ⟨k1, k2, k3, k4, k5⟩ | ⟨_, k2⟩
  · have hr := dia_rng ex_ok (note := (fstF exS n p).1) (by omega)
    have hle := (hp _ (by omega) hr.2.2.2).1 k4
    have e : (fstF exS n p).1 = 52 := by
      rcases Int.lt_trichotomy (fstF exS n p).1 52 with h | h | h
      · have := ex_hi' (n := (fstF exS n p).1) (by omega) (by omega); omega
      · exact h
      · have := k5 52 h1 h
        rw [h52] at this; cases this
    exact Prod.ext e k1
  · have := k2 52 h1 (by decide)
    rw [h52] at this; cases this
theorem ex_ask36 : askS exS 36 36 = 0 := by decide +kernel
theorem ex_ask35 : askS exS 35 35 = 2 := by decide +kernel
theorem ex_d36 : diaF exS 36 = ((155500, 155500), 0) := by
  rw [diaF, if_neg (by rw [ex_ask36]; decide), ex_36]
theorem ex_d35 : diaF exS 35 = ((0, 0), 2) := by
  rw [diaF, if_pos (by rw [ex_ask35]; decide), ex_ask35]
theorem ex_d52 : diaF exS 52 = ((77750, 77750), 0) := by
  rw [diaF, if_neg (by decide +kernel), ex_52]
theorem ex_d68 : diaF exS 68 = ((38875, 38875), 0) := by
  rw [diaF, if_neg (by decide +kernel), ex_68]
theorem ex_d84 : diaF exS 84 = ((19437, 19438), 0) := by
  rw [diaF, if_neg (by decide +kernel), ex_84]
theorem ex_hal : halF exS 36 = (52, 0) := by
  unfold halF
  rw [if_neg (by rw [ex_ask36]; decide), ex_36]
  refine ex_fst (by decide) (by decide) fun x h0 h1 => ?_
  rw [IntWalk.i64_in (2 * x.2) (by omega), decide_eq_true_eq]
  simp only
  omega
theorem ex_wid : widF exS exS 52 = (0, 0) := by
  unfold widF
  rw [if_neg (by rw [ex_ok]; decide), if_neg (by rw [ex_ok]; decide), if_neg (by decide), ex_52]
  have e : fstF exS (firstN exS) (fun x => decide (x.2 ≤ ((77750, 77750) : Iv).1)) = (52, 0) := ex_fst (by decide) (by decide) fun x h0 h1 => by
    rw [decide_eq_true_eq]
  rw [e]; rfl
theorem ans_mou {k : SV → List HO → Prop} {al : Bool} {hp : List HO} {p q : Iv} {e : Int} (h : k (.tup [.agg (enc2 p), .agg (enc2 q), .int .i64 e]) []) : answers al k (.tup [.agg [.int .i64 p.1, .int .i64 p.2], .agg [.int .i64 q.1, .int .i64 q.2], .int .i64 e]) hp :=
  ans_le (show k _ [] from h) (le_self (.tup [.agg [.int .i64 p.1, .int .i64 p.2], .agg [.int .i64 q.1, .int .i64 q.2], .int .i64 e]) ⟨⟨trivial, trivial, trivial⟩, ⟨trivial, trivial, trivial⟩, trivial, trivial⟩) (fun _ => by simp [enc2, freshS, freshL])
def mouS (s : Scl) (note : Int) : Iv × Iv × Int :=
  if askS s note note ≠ 0 then ((0, 0), (0, 0), askS s note note)
  else ((sclF (piF (diaS s note)).1 s.mn s.md).1, sclF (sclF (piF (diaS s note)).1 s.mn s.md).1 s.cn s.cd)
def mouC : Ctr := { alias := false, of := fun l => match l with
  | [.agg [.int .i64 d, .int .i64 c, .vs _ _ n sz get, .int .i64 mn, .int .i64 md, .int .i64 cn, .int .i64 cd], .int .i64 note] =>
    .ex (List (Int × Int)) fun bs => .pre (lsP 2 enc2 n sz get bs ∧ n ≤ 9223372036854775807) (.fin (.tup [.agg (enc2 (mouS ⟨d, c, bs, mn, md, cn, cd⟩ note).1), .agg (enc2 (mouS ⟨d, c, bs, mn, md, cn, cd⟩ note).2.1), .int .i64 (mouS ⟨d, c, bs, mn, md, cn, cd⟩ note).2.2]) [])
  | _ => noC }
theorem ex_mou : mouS exS 36 = ((122129, 122130), (30532, 30533), 0) := by
  obtain ⟨m1, m2⟩ := ex_mouth
  rw [mouS, if_neg (by rw [ex_ask36]; decide), ex_36, show exS.mn = 1 from rfl, show exS.md = 4 from rfl, show exS.cn = 1 from rfl, show exS.cd = 4 from rfl, m1, m2]
def K30 : Env := { ct := fun n => match n with | 20 => some askC | 21 => some diaC | 33 => some piC | 34 => some sclC | _ => none, fn := fun _ => none, meth := fun _ _ => none }
theorem K30_ct20 : K30.ct 20 = some askC := rfl
theorem K30_ct21 : K30.ct 21 = some diaC := rfl
theorem K30_ct33 : K30.ct 33 = some piC := rfl
theorem K30_ct34 : K30.ct 34 = some sclC := rfl
theorem K30_ok : EnvOk Try.prog K30 := by
  refine ⟨fun f c h => ?_, fun f vf h => ?_, (fun _ _ _ h => by cases h), by kernel_rfl, (fun _ h => by cases h)⟩
  · simp only [K30] at h
    split at h
    · cases h; exact ⟨ask_c, Try.f20, Try.func20, by kernel_rfl, by kernel_rfl⟩
    · cases h; exact ⟨dia_c, Try.f21, Try.func21, by kernel_rfl, by kernel_rfl⟩
    · cases h; exact ⟨pi_ok, Try.f33, Try.func33, by kernel_rfl, by kernel_rfl⟩
    · cases h; exact ⟨scl_ok, Try.f34, Try.func34, by kernel_rfl, by kernel_rfl⟩
    · cases h
  · cases h
theorem mou_c : mouC.ok Try.prog 17 := by
  refine contract Try.func17 v17_is K30_ok 300 mouC fun args k h => ?_
  simp only [mouC] at h
  split at h
  · rename_i d c tt z n sz get mn md cn cd note
    obtain ⟨bs, ⟨⟨rfl, rfl, hg⟩, hn⟩, h⟩ := h
    refine ⟨[.agg [.int .i64 d, .int .i64 c, .vs tt z bs.length 2 (fun k => enc2 (bs.getD k default)), .int .i64 mn, .int .i64 md, .int .i64 cn, .int .i64 cd], .int .i64 note], ⟨⟨⟨rfl, rfl⟩, ⟨rfl, rfl⟩, ⟨id, rfl, rfl, rfl, hg⟩, ⟨rfl, rfl⟩, ⟨rfl, rfl⟩, ⟨rfl, rfl⟩, ⟨rfl, rfl⟩, trivial⟩, ⟨rfl, rfl⟩, trivial⟩, ?_⟩
    have self : lsP 2 enc2 bs.length 2 (fun k => [SV.int IntKind.i64 (bs.getD k default).fst, SV.int IntKind.i64 (bs.getD k default).snd]) bs := ⟨rfl, rfl, fun k _ => leXL_self _⟩
    dsimp only [v17, K30_ct20, K30_ct21, K30_ct33, K30_ct34, askC, diaC, piC, ivoC, sclC, enc2, go_sem, reduceIte]
    simp only [t_all, forall_const, ne_eq, implies_true, Nat.reduceAdd, Nat.reduceLeDiff, reduceCtorEq, Nat.reduceEqDiff]
    refine ⟨bs, ⟨self, hn⟩, fun hc => ?_, fun hc => ?_⟩
    · rw [mouS, if_pos hc] at h
      exact ans_mou (p := (0, 0)) (q := (0, 0)) h
    · rw [mouS, if_neg (by rw [hc]; decide)] at h
      obtain ⟨a1, a2, _⟩ := ask_0 hc
      have := first_rng a1
      refine ⟨bs, ⟨self, a1, by omega, a2.2⟩, ?_⟩
      (try dsimp only [K30_ct33, K30_ct34, piC, ivoC, sclC, enc2, go_sem, reduceIte])
      (try simp only [t_all, forall_const, ne_eq, implies_true, Nat.reduceAdd, Nat.reduceLeDiff, reduceCtorEq, Nat.reduceEqDiff])
      refine ⟨by decide, by decide, by decide, by decide, by decide, by decide, ?_⟩
      exact ans_mou h
  · exact h.1.elim
def K31 : Env := { ct := fun n => match n with | 8 => some diaFC | 17 => some mouC | 14 => some halC | 15 => some widC | _ => none, fn := fun n => match n with | 18 => some v18 | 19 => some v19 | _ => none, meth := fun _ _ => none }
theorem K31_ct8 : K31.ct 8 = some diaFC := rfl
theorem K31_ct17 : K31.ct 17 = some mouC := rfl
theorem K31_ct14 : K31.ct 14 = some halC := rfl
theorem K31_ct15 : K31.ct 15 = some widC := rfl
theorem K31_ct18 : K31.ct 18 = none := rfl
theorem K31_fn18 : K31.fn 18 = some v18 := rfl
theorem K31_ct19 : K31.ct 19 = none := rfl
theorem K31_fn19 : K31.fn 19 = some v19 := rfl
theorem K31_ok : EnvOk Try.prog K31 := by
  refine ⟨fun f c h => ?_, fun f vf h => ?_, (fun _ _ _ h => by cases h), by kernel_rfl, (fun _ h => by cases h)⟩
  · simp only [K31] at h
    split at h
    · cases h; exact ⟨diaF_c, Try.f8, Try.func8, by kernel_rfl, by kernel_rfl⟩
    · cases h; exact ⟨mou_c, Try.f17, Try.func17, by kernel_rfl, by kernel_rfl⟩
    · cases h; exact ⟨hal_c, Try.f14, Try.func14, by kernel_rfl, by kernel_rfl⟩
    · cases h; exact ⟨wid_c, Try.f15, Try.func15, by kernel_rfl, by kernel_rfl⟩
    · cases h
  · simp only [K31] at h
    split at h
    · cases h; exact ⟨Try.f18, Try.func18, v18_is, Try.f18, Try.func18, by kernel_rfl, by kernel_rfl⟩
    · cases h; exact ⟨Try.f19, Try.func19, v19_is, Try.f19, Try.func19, by kernel_rfl, by kernel_rfl⟩
    · cases h
theorem shown_c : trueC.ok Try.prog 7 := by
  refine contract Try.func7 v7_is K31_ok 600 trueC fun args k h => ?_
  simp only [trueC] at h
  split at h
  · refine ⟨[], by simp [leL, le], ?_⟩
    dsimp only [v7, K31_ct8, K31_ct17, K31_ct14, K31_ct15, diaFC, mouC, halC, widC, enc2, K31_ct18, K31_fn18, v18, K31_ct19, K31_fn19, v19, go_sem, reduceIte]
    simp only [t_all, forall_const, ne_eq, implies_true, Nat.reduceAdd, Nat.reduceLeDiff, reduceCtorEq, Nat.reduceEqDiff]
    have D36 := ex_d36
    have D35 := ex_d35
    have D52 := ex_d52
    have D68 := ex_d68
    have D84 := ex_d84
    have DM := ex_mou
    have DH := ex_hal
    have DW := ex_wid
    unfold exS at D36 D35 D52 D68 D84 DM DH DW
    repeat (first | (refine And.intro (by decide) ?_) | (refine Exists.intro [((36 : Int), (16 : Int))] ?_) | (refine And.intro ⟨rfl, rfl, fun k hk => by obtain rfl : k = 0 := (by omega); exact leXL_self _⟩ ?_) | (refine And.intro ⟨⟨rfl, rfl, fun k hk => by obtain rfl : k = 0 := (by omega); exact leXL_self _⟩, ⟨rfl, rfl, fun k hk => by obtain rfl : k = 0 := (by omega); exact leXL_self _⟩⟩ ?_) | (refine And.intro (fun _ => ⟨rfl, rfl, fun k hk => by obtain rfl : k = 0 := (by omega); exact leXL_self _⟩) ?_))
    simp only [D36, D35, DM, DH, DW]
    repeat' (first | decide | exact ⟨rfl, rfl, fun k hk => by obtain rfl : k = 0 := (by omega); exact leXL_self _⟩ | apply And.intro | (refine Exists.intro [((36 : Int), (16 : Int))] ?_) | intro hh)
    all_goals simp only [D52, D68, D84] at *
    simp only [decide_true, Bool.and_self, Bool.and_true, Bool.true_and]
    exact ans_bool h
  · exact h.1.elim
end Go.Proofs.Ytmgfmkbniaepcaa
set_option linter.all false
namespace Go.Proofs.Ytmgfmkbniaepcaa
open Go Go.Vx
set_option maxRecDepth 100000
set_option maxHeartbeats 4000000
def v4 : VF := { ntmps := 248, res := [.tmp 6], body :=
 (.seq (.region [u1 3 .box [.tm 0],
 u1 4 .box [.tm 1],
 u1 6 .mov [.cn (.bool false)]])
 (.seq (.seq (.region [u1 26 (.load true 7) [.tm 3],
 u1 27 (.call 5) [.tm 26],
 u1 28 (.cmp .neq) [.tm 27, .cn (.int .i64 0)],
 u1 29 .mov [.tm 28],
 u2 30 29 false (.load true 7) [.tm 4],
 u2 31 29 false (.call 5) [.tm 30],
 u2 32 29 false (.cmp .neq) [.tm 31, .cn (.int .i64 0)],
 u1 33 .or [.tm 29, .tm 32],
 u1 34 .mov [.tm 33],
 u2 35 34 false (.load true 7) [.tm 3],
 u2 36 34 false .mov [.tm 2],
 u2 37 34 false (.call 6) [.tm 35, .tm 36],
 u2 38 34 false .not [.tm 37],
 u1 39 .or [.tm 34, .tm 38]])
 (.cond (.tm 39) (.seq (.region [u1 40 (.call 7) [],
 u1 6 .mov [.tm 40]])
 .ret)
  .skip))
 (.seq (.region [u1 42 (.load true 7) [.tm 3],
 u1 43 .mov [.tm 2],
 u1 44 (.call 8) [.tm 42, .tm 43],
 u1 41 .mov [.tm 44],
 u1 45 (.ext 0) [.tm 41],
 u1 46 (.ext 1) [.tm 41],
 u1 7 (.alloc [(.int .i64 0), (.int .i64 0)]) [],
 u0 (.store 2) [.tm 7, .tm 45],
 u1 8 .mov [.tm 46]])
 (.seq (.seq (.region [u1 47 .mov [.tm 8],
 u1 48 (.cmp .neq) [.tm 47, .cn (.int .i64 0)]])
 (.cond (.tm 48) (.seq (.region [u1 6 .mov [.cn (.bool false)]])
 .ret)
  .skip))
 (.seq (.seq (.region [u1 49 .mov [.tm 2],
 u1 50 (.cmp .lss) [.tm 49, .cn (.int .i64 139)]])
 (.cond (.tm 50) (.seq (.region [u1 52 (.load true 7) [.tm 3],
 u1 53 .mov [.tm 2],
 u1 54 (.ari .add) [.tm 53, .cn (.int .i64 1)],
 u1 55 (.call 8) [.tm 52, .tm 54],
 u1 51 .mov [.tm 55],
 u1 56 (.ext 0) [.tm 51],
 u1 57 (.ext 1) [.tm 51],
 u1 9 (.alloc [(.int .i64 0), (.int .i64 0)]) [],
 u0 (.store 2) [.tm 9, .tm 56],
 u1 10 .mov [.tm 57]])
 (.seq (.region [u1 58 .mov [.tm 10],
 u1 59 (.cmp .neq) [.tm 58, .cn (.int .i64 0)],
 u1 60 .mov [.tm 59],
 u2 61 60 false (.fieldAddr 0) [.tm 9],
 u2 62 60 false (.load false 1) [.tm 61],
 u2 63 60 false (.fieldAddr 0) [.tm 7],
 u2 64 60 false (.load false 1) [.tm 63],
 u2 65 60 false (.cmp .gtr) [.tm 62, .tm 64],
 u1 66 .or [.tm 60, .tm 65],
 u1 67 .mov [.tm 66],
 u2 68 67 false (.fieldAddr 1) [.tm 9],
 u2 69 67 false (.load false 1) [.tm 68],
 u2 70 67 false (.fieldAddr 1) [.tm 7],
 u2 71 67 false (.load false 1) [.tm 70],
 u2 72 67 false (.cmp .gtr) [.tm 69, .tm 71],
 u1 73 .or [.tm 67, .tm 72]])
 (.cond (.tm 73) (.seq (.region [u1 6 .mov [.cn (.bool false)]])
 .ret)
  .skip)))
  .skip))
 (.seq (.region [u1 74 (.load true 7) [.tm 3],
 u1 11 (.alloc [(.int .i64 0), (.int .i64 0), .nil, (.int .i64 0), (.int .i64 0), (.int .i64 0), (.int .i64 0)]) [],
 u0 (.store 7) [.tm 11, .tm 74]])
 (.seq (.region [u1 75 (.buildSlice 2 0 [(.int .i64 0), (.int .i64 0)] []) [],
 u1 76 (.fieldAddr 2) [.tm 3],
 u1 77 (.load false 1) [.tm 76],
 u1 78 (.append 2 16 [(.int .i64 0), (.int .i64 0)]) [.tm 75, .tm 77],
 u1 79 (.fieldAddr 2) [.tm 11],
 u0 (.store 1) [.tm 79, .tm 78]])
 (.seq (.draw [] [w1 80 (.fieldAddr 2) [.tm 11],
 w1 81 (.load false 1) [.tm 80],
 w1 82 (.fieldAddr 2) [.tm 11],
 w1 83 (.load false 1) [.tm 82],
 w1 84 .len [.tm 83],
 w1 85 (.ari .sub) [.tm 84, .cn (.int .i64 1)],
 w1 86 (.fieldAddr 2) [.tm 11],
 w1 87 (.load false 1) [.tm 86],
 w1 88 (.fieldAddr 2) [.tm 11],
 w1 89 (.load false 1) [.tm 88],
 w1 90 .len [.tm 89],
 w1 91 (.ari .sub) [.tm 90, .cn (.int .i64 1)],
 w1 92 (.idxAddr 2) [.tm 87, .tm 91],
 w1 93 (.fieldAddr 1) [.tm 92],
 w1 94 (.load false 1) [.tm 93],
 w1 95 (.ari .add) [.tm 94, .cn (.int .i64 1)],
 w1 96 .min [.tm 95, .cn (.int .i64 64)],
 w1 97 (.idxAddr 2) [.tm 81, .tm 85],
 w1 98 (.fieldAddr 1) [.tm 97],
 w0 (.store 1) [.tm 98, .tm 96]])
 (.seq (.region [u1 100 (.load true 7) [.tm 11],
 u1 101 .mov [.tm 2],
 u1 102 (.call 8) [.tm 100, .tm 101],
 u1 99 .mov [.tm 102],
 u1 103 (.ext 0) [.tm 99],
 u1 104 (.ext 1) [.tm 99],
 u1 12 (.alloc [(.int .i64 0), (.int .i64 0)]) [],
 u0 (.store 2) [.tm 12, .tm 103],
 u1 13 .mov [.tm 104]])
 (.seq (.seq (.region [u1 105 .mov [.tm 13],
 u1 106 (.cmp .neq) [.tm 105, .cn (.int .i64 0)],
 u1 107 .mov [.tm 106],
 u2 108 107 false (.fieldAddr 0) [.tm 12],
 u2 109 107 false (.load false 1) [.tm 108],
 u2 110 107 false (.fieldAddr 0) [.tm 7],
 u2 111 107 false (.load false 1) [.tm 110],
 u2 112 107 false (.cmp .lss) [.tm 109, .tm 111],
 u1 113 .or [.tm 107, .tm 112],
 u1 114 .mov [.tm 113],
 u2 115 114 false (.fieldAddr 1) [.tm 12],
 u2 116 114 false (.load false 1) [.tm 115],
 u2 117 114 false (.fieldAddr 1) [.tm 7],
 u2 118 114 false (.load false 1) [.tm 117],
 u2 119 114 false (.cmp .lss) [.tm 116, .tm 118],
 u1 120 .or [.tm 114, .tm 119]])
 (.cond (.tm 120) (.seq (.region [u1 6 .mov [.cn (.bool false)]])
 .ret)
  .skip))
 (.seq (.region [u1 122 (.load true 7) [.tm 3],
 u1 123 .mov [.tm 2],
 u1 124 (.call 14) [.tm 122, .tm 123],
 u1 121 .mov [.tm 124],
 u1 125 (.ext 0) [.tm 121],
 u1 126 (.ext 1) [.tm 121],
 u1 14 .mov [.tm 125],
 u1 13 .mov [.tm 126]])
 (.seq (.seq (.region [u1 127 .mov [.tm 13],
 u1 128 (.cmp .eql) [.tm 127, .cn (.int .i64 0)]])
 (.cond (.tm 128) (.seq (.region [u1 130 (.load true 7) [.tm 3],
 u1 131 .mov [.tm 14],
 u1 132 (.call 8) [.tm 130, .tm 131],
 u1 129 .mov [.tm 132],
 u1 133 (.ext 0) [.tm 129],
 u1 134 (.ext 1) [.tm 129],
 u1 15 (.alloc [(.int .i64 0), (.int .i64 0)]) [],
 u0 (.store 2) [.tm 15, .tm 133],
 u1 16 .mov [.tm 134]])
 (.seq (.region [u1 136 (.load true 7) [.tm 3],
 u1 137 .mov [.tm 14],
 u1 138 (.ari .sub) [.tm 137, .cn (.int .i64 1)],
 u1 139 (.call 8) [.tm 136, .tm 138],
 u1 135 .mov [.tm 139],
 u1 140 (.ext 0) [.tm 135],
 u1 141 (.ext 1) [.tm 135],
 u1 17 (.alloc [(.int .i64 0), (.int .i64 0)]) [],
 u0 (.store 2) [.tm 17, .tm 140],
 u1 18 .mov [.tm 141]])
 (.seq (.region [u1 142 .mov [.tm 14],
 u1 143 .mov [.tm 2],
 u1 144 (.cmp .leq) [.tm 142, .tm 143],
 u1 145 .mov [.tm 144],
 u2 146 145 false .mov [.tm 16],
 u2 147 145 false (.cmp .neq) [.tm 146, .cn (.int .i64 0)],
 u1 148 .or [.tm 145, .tm 147],
 u1 149 .mov [.tm 148],
 u2 150 149 false .mov [.tm 18],
 u2 151 149 false (.cmp .neq) [.tm 150, .cn (.int .i64 0)],
 u1 152 .or [.tm 149, .tm 151],
 u1 153 .mov [.tm 152],
 u2 154 153 false (.fieldAddr 1) [.tm 15],
 u2 155 153 false (.load false 1) [.tm 154],
 u2 156 153 false (.ari .mul) [.cn (.int .i64 2), .tm 155],
 u2 157 153 false (.fieldAddr 0) [.tm 7],
 u2 158 153 false (.load false 1) [.tm 157],
 u2 159 153 false (.cmp .gtr) [.tm 156, .tm 158],
 u1 160 .or [.tm 153, .tm 159],
 u1 161 .mov [.tm 160],
 u2 162 161 false (.fieldAddr 1) [.tm 17],
 u2 163 161 false (.load false 1) [.tm 162],
 u2 164 161 false (.ari .mul) [.cn (.int .i64 2), .tm 163],
 u2 165 161 false (.fieldAddr 0) [.tm 7],
 u2 166 161 false (.load false 1) [.tm 165],
 u2 167 161 false (.cmp .leq) [.tm 164, .tm 166],
 u1 168 .or [.tm 161, .tm 167]])
 (.cond (.tm 168) (.seq (.region [u1 6 .mov [.cn (.bool false)]])
 .ret)
  .skip))))
  .skip))
 (.seq (.region [u1 170 (.load true 7) [.tm 3],
 u1 171 (.load true 7) [.tm 4],
 u1 172 .mov [.tm 2],
 u1 173 (.call 15) [.tm 170, .tm 171, .tm 172],
 u1 169 .mov [.tm 173],
 u1 174 (.ext 0) [.tm 169],
 u1 175 (.ext 1) [.tm 169],
 u1 19 .mov [.tm 174],
 u1 13 .mov [.tm 175]])
 (.seq (.seq (.region [u1 176 .mov [.tm 13],
 u1 177 (.cmp .neq) [.tm 176, .cn (.int .i64 0)]])
 (.cond (.tm 177) (.seq (.region [u1 179 (.load true 7) [.tm 4],
 u1 180 (.call 8) [.tm 179, .cn (.int .i64 139)],
 u1 178 .mov [.tm 180],
 u1 181 (.ext 0) [.tm 178],
 u1 182 (.ext 1) [.tm 178],
 u1 20 (.alloc [(.int .i64 0), (.int .i64 0)]) [],
 u0 (.store 2) [.tm 20, .tm 181],
 u1 21 .mov [.tm 182]])
 (.seq (.region [u1 183 .mov [.tm 13],
 u1 184 (.cmp .eql) [.tm 183, .cn (.int .i64 4)],
 u1 185 .mov [.tm 184],
 u2 186 185 true .mov [.tm 21],
 u2 187 185 true (.cmp .eql) [.tm 186, .cn (.int .i64 0)],
 u1 188 .and [.tm 185, .tm 187],
 u1 189 .mov [.tm 188],
 u2 190 189 true (.fieldAddr 1) [.tm 20],
 u2 191 189 true (.load false 1) [.tm 190],
 u2 192 189 true (.fieldAddr 0) [.tm 7],
 u2 193 189 true (.load false 1) [.tm 192],
 u2 194 189 true (.cmp .gtr) [.tm 191, .tm 193],
 u1 195 .and [.tm 189, .tm 194],
 u1 196 .mov [.tm 195],
 u2 197 196 true (.call 7) [],
 u1 198 .and [.tm 196, .tm 197],
 u1 6 .mov [.tm 198]])
 .ret))
  .skip))
 (.seq (.seq (.region [u1 199 .mov [.tm 19],
 u1 200 .mov [.tm 2],
 u1 201 (.cmp .gtr) [.tm 199, .tm 200],
 u1 202 .mov [.tm 201],
 u2 203 202 false .mov [.tm 2],
 u2 204 202 false .mov [.tm 19],
 u2 205 202 false (.ari .sub) [.tm 203, .tm 204],
 u2 206 202 false (.cmp .gtr) [.tm 205, .cn (.int .i64 139)],
 u1 207 .or [.tm 202, .tm 206]])
 (.cond (.tm 207) (.seq (.region [u1 6 .mov [.cn (.bool false)]])
 .ret)
  .skip))
 (.seq (.region [u1 209 (.load true 7) [.tm 4],
 u1 210 .mov [.tm 2],
 u1 211 .mov [.tm 19],
 u1 212 (.ari .sub) [.tm 210, .tm 211],
 u1 213 (.call 8) [.tm 209, .tm 212],
 u1 208 .mov [.tm 213],
 u1 214 (.ext 0) [.tm 208],
 u1 215 (.ext 1) [.tm 208],
 u1 22 (.alloc [(.int .i64 0), (.int .i64 0)]) [],
 u0 (.store 2) [.tm 22, .tm 214],
 u1 23 .mov [.tm 215]])
 (.seq (.region [u1 217 (.load true 7) [.tm 4],
 u1 218 .mov [.tm 2],
 u1 219 .mov [.tm 19],
 u1 220 (.ari .sub) [.tm 218, .tm 219],
 u1 221 (.ari .sub) [.tm 220, .cn (.int .i64 1)],
 u1 222 (.call 8) [.tm 217, .tm 221],
 u1 216 .mov [.tm 222],
 u1 223 (.ext 0) [.tm 216],
 u1 224 (.ext 1) [.tm 216],
 u1 24 (.alloc [(.int .i64 0), (.int .i64 0)]) [],
 u0 (.store 2) [.tm 24, .tm 223],
 u1 25 .mov [.tm 224]])
 (.seq (.region [u1 225 .mov [.tm 23],
 u1 226 (.cmp .eql) [.tm 225, .cn (.int .i64 0)],
 u1 227 .mov [.tm 226],
 u2 228 227 true (.fieldAddr 1) [.tm 22],
 u2 229 227 true (.load false 1) [.tm 228],
 u2 230 227 true (.fieldAddr 0) [.tm 7],
 u2 231 227 true (.load false 1) [.tm 230],
 u2 232 227 true (.cmp .leq) [.tm 229, .tm 231],
 u1 233 .and [.tm 227, .tm 232],
 u1 234 .mov [.tm 233],
 u2 235 234 true .mov [.tm 25],
 u2 236 234 true (.cmp .neq) [.tm 235, .cn (.int .i64 0)],
 u2 237 234 true .mov [.tm 236],
 u2 238 237 false (.fieldAddr 1) [.tm 24],
 u2 239 237 false (.load false 1) [.tm 238],
 u2 240 237 false (.fieldAddr 0) [.tm 7],
 u2 241 237 false (.load false 1) [.tm 240],
 u2 242 237 false (.cmp .gtr) [.tm 239, .tm 241],
 u2 243 234 true .or [.tm 237, .tm 242],
 u1 244 .and [.tm 234, .tm 243],
 u1 245 .mov [.tm 244],
 u2 246 245 true (.call 7) [],
 u1 247 .and [.tm 245, .tm 246],
 u1 6 .mov [.tm 247]])
 .ret)))))))))))))))))) }
def shS : List Sh := [.int .i64, .int .i64, .slice bare2, .int .i64, .int .i64, .int .i64, .int .i64]
theorem scl_of {cs : List SV} (h : okSL shS cs) : ∃ (z : Bool) (s : Scl), s.bs.length ≤ 9223372036854775807 ∧ leXL cs [.int .i64 s.d, .int .i64 s.c, .vs false z s.bs.length 2 (fun k => enc2 (s.bs.getD k default)), .int .i64 s.mn, .int .i64 s.md, .int .i64 s.cn, .int .i64 s.cd] := by
  obtain ⟨_, _, rfl, ⟨n1, rfl, _⟩, e1⟩ := okSL_cons_inv h
  obtain ⟨_, _, rfl, ⟨n2, rfl, _⟩, e2⟩ := okSL_cons_inv e1
  obtain ⟨_, _, rfl, h3, e3⟩ := okSL_cons_inv e2
  obtain ⟨_, _, rfl, ⟨n4, rfl, _⟩, e4⟩ := okSL_cons_inv e3
  obtain ⟨_, _, rfl, ⟨n5, rfl, _⟩, e5⟩ := okSL_cons_inv e4
  obtain ⟨_, _, rfl, ⟨n6, rfl, _⟩, e6⟩ := okSL_cons_inv e5
  obtain ⟨_, _, rfl, ⟨n7, rfl, _⟩, e7⟩ := okSL_cons_inv e6
  cases okSL_nil_inv e7
  obtain ⟨z, l, hl, hle⟩ := ivs_of h3
  rw [maxLen_eq] at hl
  exact ⟨z, ⟨n1, n2, l, n4, n5, n6, n7⟩, hl, ⟨rfl, rfl⟩, ⟨rfl, rfl⟩, hle, ⟨rfl, rfl⟩, ⟨rfl, rfl⟩, ⟨rfl, rfl⟩, ⟨rfl, rfl⟩, trivial⟩
theorem diaF_is {s : Scl} {note : Int} (hs : chkS s = 0) (hh : hasS s note = true) : diaF s note = (diaS s note, 0) := by
  have e : askS s note note = 0 := by
    unfold askS
    rw [if_neg (by rw [hs]; decide), hh, if_neg (by simp)]
  rw [diaF, if_neg (by rw [e]; decide)]
end Go.Proofs.Ytmgfmkbniaepcaa
set_option linter.all false
namespace Go.Proofs.Ytmgfmkbniaepcaa
open Go Go.Vx
def tbP (y : Nat) : Nat := Nat.land (Nat.shiftRight 1552518092300708935148979488462502555256886017116696611139052038026050952686376886330878408828646477950487730697131067577313551987760641208724272968810637556384559195242754483468764431187533836104348593828980831103427008259450020416 (Nat.mul 3 y)) 7
def pw16 (k : Nat) : Nat → Nat → Bool :=
  Nat.rec (fun A B => bif Nat.blt 79228162514264337593543950336 A then Nat.blt B 158456325028528675187087900672 else false) (fun _ ih A B => (fun X => (fun y => (fun s => ih (Nat.shiftRight X s) (Nat.succ (Nat.shiftRight (Nat.pow B 16) s))) (bif Nat.blt y 256 then Nat.add 1440 (tbP y) else Nat.add 1448 (tbP (Nat.shiftRight y 8)))) (Nat.shiftRight X 1536)) (Nat.pow A 16)) k
def onePw (k e n : Nat) : Bool := (fun A => pw16 k A A) (Nat.shiftLeft n e)
def rngPw (k e a c : Nat) : Bool := Nat.rec true (fun i ih => bif onePw k e (Nat.add a (Nat.mul 2 i)) then ih else false) c
theorem mul_pw2 {X a b c : Nat} (h : c = a + b) : X * 2 ^ a * 2 ^ b = X * 2 ^ c := by rw [h, Nat.pow_add, Nat.mul_assoc]
theorem pw16_is : ∀ (k A B N S : Nat), pw16 k A B = true → 2 ^ S * A ≤ N * 2 ^ 96 → N * 2 ^ 96 ≤ 2 ^ S * B →
    ∃ S', 2 ^ S' * (2 ^ 96 + 1) ≤ N ^ (16 ^ k) * 2 ^ 96 ∧ N ^ (16 ^ k) * 2 ^ 96 + 2 ^ S' ≤ 2 ^ S' * 2 ^ 97 := by
  intro k
  induction k with
  | zero =>
    intro A B N S h h1 h2
    have h : (bif Nat.blt 79228162514264337593543950336 A then Nat.blt B 158456325028528675187087900672 else false) = true := h
    cases hb : Nat.blt 79228162514264337593543950336 A with
    | false => rw [hb] at h; cases h
    | true =>
      rw [hb] at h
      have g1 : 2 ^ 96 + 1 ≤ A := Nat.le_of_ble_eq_true hb
      have g2 : B + 1 ≤ 2 ^ 97 := Nat.le_of_ble_eq_true h
      rw [Nat.pow_zero, Nat.pow_one]
      refine ⟨S, Nat.le_trans (Nat.mul_le_mul_left _ g1) h1, ?_⟩
      have g3 := Nat.mul_le_mul_left (2 ^ S) g2
      rw [Nat.mul_add, Nat.mul_one] at g3
      exact Nat.le_trans (Nat.add_le_add_right h2 _) g3
  | succ k ih =>
    intro A B N S h h1 h2
    obtain ⟨t, ht⟩ : ∃ t, (bif Nat.blt (A ^ 16 >>> 1536) 256 then Nat.add 1440 (tbP (A ^ 16 >>> 1536)) else Nat.add 1448 (tbP ((A ^ 16 >>> 1536) >>> 8))) = 1440 + t := by
      cases Nat.blt (A ^ 16 >>> 1536) 256
      · exact ⟨8 + tbP ((A ^ 16 >>> 1536) >>> 8), Nat.add_assoc 1440 8 _⟩
      · exact ⟨tbP (A ^ 16 >>> 1536), rfl⟩
    have h : pw16 k (A ^ 16 >>> (bif Nat.blt (A ^ 16 >>> 1536) 256 then Nat.add 1440 (tbP (A ^ 16 >>> 1536)) else Nat.add 1448 (tbP ((A ^ 16 >>> 1536) >>> 8)))) (B ^ 16 >>> (bif Nat.blt (A ^ 16 >>> 1536) 256 then Nat.add 1440 (tbP (A ^ 16 >>> 1536)) else Nat.add 1448 (tbP ((A ^ 16 >>> 1536) >>> 8))) + 1) = true := h
    rw [ht, Nat.shiftRight_eq_div_pow, Nat.shiftRight_eq_div_pow] at h
    have e16 : N ^ (16 ^ (k + 1)) = (N ^ 16) ^ (16 ^ k) := by rw [Nat.pow_succ, Nat.mul_comm, Nat.pow_mul]
    rw [e16]
    have p1 := Nat.pow_le_pow_left h1 16
    have p2 := Nat.pow_le_pow_left h2 16
    rw [Nat.mul_pow, Nat.mul_pow, ← Nat.pow_mul, ← Nat.pow_mul] at p1 p2
    have q1 : A ^ 16 / 2 ^ (1440 + t) * 2 ^ (1440 + t) ≤ A ^ 16 := Nat.div_mul_le_self _ _
    have q2 : B ^ 16 ≤ (B ^ 16 / 2 ^ (1440 + t) + 1) * 2 ^ (1440 + t) := by
      have h3 := Nat.mod_lt (B ^ 16) (p2_pos (1440 + t))
      have := Nat.div_add_mod (B ^ 16) (2 ^ (1440 + t))
      rw [Nat.add_mul, Nat.one_mul, Nat.mul_comm (B ^ 16 / 2 ^ (1440 + t))]; omega
    have e1 : ∀ z, 2 ^ (S * 16 + t) * z * 2 ^ 1440 = 2 ^ (S * 16) * (z * 2 ^ (1440 + t)) := fun z => by
      rw [Nat.pow_add, Nat.pow_add 2 1440 t]
      simp only [Nat.mul_assoc, Nat.mul_left_comm, Nat.mul_comm]
    have e2 := mul_pw2 (X := N ^ 16) (a := 96) (b := 1440) (c := 96 * 16) (by decide)
    refine ih _ _ (N ^ 16) (S * 16 + t) h ?_ ?_
    · refine Nat.le_of_mul_le_mul_right (c := 2 ^ 1440) ?_ (p2_pos 1440)
      rw [e1, e2]
      exact Nat.le_trans (Nat.mul_le_mul_left _ q1) p1
    · refine Nat.le_of_mul_le_mul_right (c := 2 ^ 1440) ?_ (p2_pos 1440)
      rw [e1, e2]
      exact Nat.le_trans p2 (Nat.mul_le_mul_left _ q2)
def farJ (J n : Nat) : Prop := ∀ m, ¬ Near (2 ^ 4160) (2 ^ 2160) J n m
theorem far_of {M W P N S : Nat} (hMW : 4 * (W * 2 ^ P) ≤ M) (hW : 0 < W) (h1 : 2 ^ S * (2 ^ P + 1) ≤ N * 2 ^ P) (h2 : N * 2 ^ P + 2 ^ S ≤ 2 ^ S * 2 ^ (P + 1)) (m : Nat) (g1 : 2 ^ m * M ≤ N * M + 2 ^ m * W) (g2 : N * M ≤ 2 ^ m * (M + W)) : False := by
  have hS := p2_pos S
  have hP := p2_pos P
  rcases Nat.lt_or_ge S m with h | h
  · have hm : 2 * 2 ^ S ≤ 2 ^ m := by rw [← Nat.pow_succ']; exact Nat.pow_le_pow_right (by decide) h
    rw [Nat.pow_succ] at h2
    generalize 2 ^ m = Q at *
    generalize 2 ^ S = T at *
    generalize 2 ^ P = R at *
    -- Q (M - W) R <= T (2 R - 1) M
    have k1 := Nat.mul_le_mul_right R g1
    have k2 := Nat.mul_le_mul_right M h2
    have e1 : (N * M + Q * W) * R = N * R * M + Q * (W * R) := by rw [Nat.add_mul, Nat.mul_right_comm, Nat.mul_assoc Q]
    have e2 : (N * R + T) * M = N * R * M + T * M := Nat.add_mul ..
    have e3 : T * (R * 2) * M = 2 * T * (R * M) := by simp only [Nat.mul_assoc, Nat.mul_left_comm, Nat.mul_comm]
    have e4 : Q * M * R = Q * (R * M) := by rw [Nat.mul_assoc, Nat.mul_comm M]
    have hWR : W * R ≤ R * M := by
      have a : W * R * 1 ≤ W * R * 4 := Nat.mul_le_mul_left _ (by decide)
      have b : 1 * M ≤ R * M := Nat.mul_le_mul_right M hP
      omega
    obtain ⟨V, hV⟩ : ∃ V, R * M = W * R + V := ⟨R * M - W * R, by omega⟩
    have k3 : Q * V + T * M ≤ 2 * T * (W * R + V) := by
      have : Q * (W * R + V) = Q * (W * R) + Q * V := Nat.mul_add ..
      rw [hV] at e3 e4
      omega
    have k4 := Nat.mul_le_mul_right V hm
    have e5 : 2 * T * (W * R + V) = 2 * T * (W * R) + 2 * T * V := Nat.mul_add ..
    have k5 := Nat.mul_le_mul_left T hMW
    have e6 : T * (4 * (W * R)) = 2 * (2 * T * (W * R)) := by rw [Nat.mul_left_comm, Nat.mul_assoc 2 T]; omega
    have k6 : 0 < 2 * T * (W * R) := Nat.mul_pos (by omega) (Nat.mul_pos hW hP)
    omega
  · have hm : 2 ^ m ≤ 2 ^ S := Nat.pow_le_pow_right (by decide) h
    generalize 2 ^ m = Q at *
    generalize 2 ^ S = T at *
    generalize 2 ^ P = R at *
    have k1 := Nat.mul_le_mul_right R (Nat.le_trans g2 (Nat.mul_le_mul_right _ hm))
    have k2 := Nat.mul_le_mul_right M h1
    have e1 : N * M * R = N * R * M := Nat.mul_right_comm ..
    have e2 : T * (R + 1) * M = T * (R * M) + T * M := by rw [Nat.mul_assoc, Nat.add_mul, Nat.one_mul, Nat.mul_add]
    have e3 : T * (M + W) * R = T * (R * M) + T * (W * R) := by rw [Nat.mul_assoc, Nat.add_mul, Nat.mul_add, Nat.mul_comm M]
    have k3 : T * M ≤ T * (W * R) := by omega
    have := Nat.le_of_mul_le_mul_left k3 hS
    have : 0 < W * R := Nat.mul_pos hW hP
    omega
theorem four_pw {a b c : Nat} (h : 2 + a + b ≤ c) : 4 * (2 ^ a * 2 ^ b) ≤ 2 ^ c := by
  rw [← Nat.pow_add]
  exact pw_le4 (by omega)
theorem onePw_is {k e n : Nat} (he : e ≤ 96) (h : onePw k e n = true) : farJ (4 * k) n := by
  have h : pw16 k (n <<< e) (n <<< e) = true := h
  rw [Nat.shiftLeft_eq] at h
  have e0 : 2 ^ (96 - e) * (n * 2 ^ e) = n * 2 ^ 96 := by
    rw [Nat.mul_left_comm, ← Nat.pow_add]; congr 2; omega
  obtain ⟨S, h1, h2⟩ := pw16_is k _ _ n (96 - e) h (Nat.le_of_eq e0) (Nat.le_of_eq e0.symm)
  have e1 : (16 : Nat) ^ k = 2 ^ (4 * k) := by rw [Nat.pow_mul]
  rw [e1] at h1 h2
  intro m hm
  exact far_of (M := 2 ^ 4160) (W := 2 ^ 2160) (P := 96) (four_pw (by decide)) (p2_pos 2160) h1 h2 m hm.1 hm.2
theorem rngPw_is {k e a : Nat} (he : e ≤ 96) : ∀ c, rngPw k e a c = true → ∀ i, i < c → farJ (4 * k) (a + 2 * i) := by
  intro c
  induction c with
  | zero => intro _ i hi; omega
  | succ c ih =>
    intro h i hi
    have h : (bif onePw k e (a + 2 * c) then rngPw k e a c else false) = true := h
    cases hb : onePw k e (a + 2 * c) with
    | false => rw [hb] at h; cases h
    | true =>
      rw [hb] at h
      rcases Nat.lt_or_eq_of_le (Nat.le_of_lt_succ hi) with h1 | h1
      · exact ih h i h1
      · rw [h1]; exact onePw_is he hb
def AllO (k : Nat) : Nat → List (Nat × Nat) → Prop
  | _, [] => True
  | a, x :: r => (x.1 ≤ 96 ∧ rngPw k x.1 a x.2 = true) ∧ AllO k (a + 2 * x.2) r
def sumO' (l : List (Nat × Nat)) : Nat := l.foldr (fun x s => x.2 + s) 0
theorem AllO_is {k : Nat} : ∀ (l : List (Nat × Nat)) (a : Nat), AllO k a l → ∀ i, i < sumO' l → farJ (4 * k) (a + 2 * i)
  | [], a, _, i, hi => by simp [sumO'] at hi
  | x :: r, a, h, i, hi => by
    have e : sumO' (x :: r) = x.2 + sumO' r := rfl
    rw [e] at hi
    rcases Nat.lt_or_ge i x.2 with h1 | h1
    · exact rngPw_is h.1.1 x.2 h.1.2 i h1
    · have := AllO_is r _ h.2 (i - x.2) (by omega)
      rw [show a + 2 * x.2 + 2 * (i - x.2) = a + 2 * i by omega] at this
      exact this
theorem far_dbl {J n : Nat} (hn : 1 ≤ n) (h : farJ J n) : farJ J (2 * n) := by
  intro m hm
  have hlo : 2 ^ J ≤ m := near_lo hm (by rw [Nat.mul_pow]; exact Nat.le_mul_of_pos_right _ (Nat.pow_pos hn))
  obtain ⟨m', rfl⟩ : ∃ m', m = 2 ^ J + m' := ⟨m - 2 ^ J, by omega⟩
  refine h m' ?_
  obtain ⟨h1, h2⟩ := hm
  rw [Nat.mul_pow, Nat.pow_add] at h1 h2
  unfold Near
  have hQ := p2_pos (2 ^ J)
  generalize (2 : Nat) ^ 4160 = M at *
  generalize (2 : Nat) ^ 2160 = W at *
  generalize 2 ^ 2 ^ J = Q at *
  generalize n ^ 2 ^ J = X at *
  generalize 2 ^ m' = R at *
  constructor
  · refine Nat.le_of_mul_le_mul_left (c := Q) ?_ hQ
    rw [Nat.mul_add]
    simp only [← Nat.mul_assoc] at h1 ⊢
    exact h1
  · refine Nat.le_of_mul_le_mul_left (c := Q) ?_ hQ
    simp only [← Nat.mul_assoc] at h2 ⊢
    exact h2
theorem odd_all {J B : Nat} (h : ∀ i, 2 * i + 3 ≤ B → farJ J (2 * i + 3)) : ∀ n, 1 ≤ n → n ≤ B → (∃ q, n = 2 ^ q) ∨ farJ J n := by
  intro n
  induction n using Nat.strongRecOn with
  | _ n ih =>
    intro h1 hB
    by_cases ho : n % 2 = 0
    · obtain ⟨j, rfl⟩ : ∃ j, n = 2 * j := ⟨n / 2, by omega⟩
      rcases ih j (by omega) (by omega) (by omega) with ⟨q, hq⟩ | hf
      · exact Or.inl ⟨q + 1, by rw [Nat.pow_succ, ← hq, Nat.mul_comm]⟩
      · exact Or.inr (far_dbl (by omega) hf)
    · by_cases h3 : n = 1
      · exact Or.inl ⟨0, h3⟩
      · obtain ⟨i, rfl⟩ : ∃ i, n = 2 * i + 3 := ⟨(n - 3) / 2, by omega⟩
        exact Or.inr (h i hB)
theorem narrow_far {J n : Nat} (hJ : J ≤ 500) (h1 : 1 ≤ n) (h2 : n < 2 ^ 61) (h : (∃ q, n = 2 ^ q) ∨ farJ J n) : narrow J n := by
  rcases narrow_or h1 (Nat.lt_trans h2 (by decide)) hJ with hn | ⟨hp, m, hm⟩
  · exact hn
  · exfalso
    rcases h with ⟨q, hq⟩ | h
    · have hq2 : q < 61 := (Nat.pow_lt_pow_iff_right (show 1 < 2 by decide)).1 (by rw [← hq]; exact h2)
      rw [hq, isPow_two q (by omega)] at hp
      cases hp
    · exact h m hm
end Go.Proofs.Ytmgfmkbniaepcaa
set_option linter.all false
namespace Go.Proofs.Ytmgfmkbniaepcaa
open Go Go.Vx
theorem od_0 : rngPw 13 95 3 1 = true := by decide +kernel
theorem od_1 : rngPw 13 94 5 2 = true := by decide +kernel
theorem od_2 : rngPw 13 93 9 4 = true := by decide +kernel
theorem od_3 : rngPw 13 92 17 8 = true := by decide +kernel
theorem od_4 : rngPw 13 91 33 16 = true := by decide +kernel
theorem od_5 : rngPw 13 90 65 32 = true := by decide +kernel
theorem od_6 : rngPw 13 89 129 64 = true := by decide +kernel
theorem od_7 : rngPw 13 88 257 128 = true := by decide +kernel
theorem od_8 : rngPw 13 87 513 256 = true := by decide +kernel
theorem od_9 : rngPw 13 86 1025 512 = true := by decide +kernel
theorem od_10 : rngPw 13 85 2049 1024 = true := by decide +kernel
theorem od_11 : rngPw 13 84 4097 2048 = true := by decide +kernel
theorem od_12 : rngPw 13 83 8193 4096 = true := by decide +kernel
theorem od_13 : rngPw 13 82 16385 4096 = true := by decide +kernel
theorem od_14 : rngPw 13 82 24577 4096 = true := by decide +kernel
theorem od_15 : rngPw 13 81 32769 4096 = true := by decide +kernel
theorem od_16 : rngPw 13 81 40961 4096 = true := by decide +kernel
theorem od_17 : rngPw 13 81 49153 4096 = true := by decide +kernel
theorem od_18 : rngPw 13 81 57345 4096 = true := by decide +kernel
end Go.Proofs.Ytmgfmkbniaepcaa
set_option linter.all false
namespace Go.Proofs.Ytmgfmkbniaepcaa
open Go Go.Vx
theorem od_19 : rngPw 13 80 65537 4096 = true := by decide +kernel
theorem od_20 : rngPw 13 80 73729 4096 = true := by decide +kernel
theorem od_21 : rngPw 13 80 81921 4096 = true := by decide +kernel
theorem od_22 : rngPw 13 80 90113 4096 = true := by decide +kernel
theorem od_23 : rngPw 13 80 98305 4096 = true := by decide +kernel
theorem od_24 : rngPw 13 80 106497 4096 = true := by decide +kernel
theorem od_25 : rngPw 13 80 114689 4096 = true := by decide +kernel
theorem od_26 : rngPw 13 80 122881 4096 = true := by decide +kernel
theorem od_27 : rngPw 13 79 131073 4096 = true := by decide +kernel
theorem od_28 : rngPw 13 79 139265 4096 = true := by decide +kernel
theorem od_29 : rngPw 13 79 147457 4096 = true := by decide +kernel
theorem od_30 : rngPw 13 79 155649 4096 = true := by decide +kernel
theorem od_31 : rngPw 13 79 163841 4096 = true := by decide +kernel
theorem od_32 : rngPw 13 79 172033 4096 = true := by decide +kernel
theorem od_33 : rngPw 13 79 180225 4096 = true := by decide +kernel
theorem od_34 : rngPw 13 79 188417 4096 = true := by decide +kernel
theorem od_35 : rngPw 13 79 196609 4096 = true := by decide +kernel
theorem od_36 : rngPw 13 79 204801 4096 = true := by decide +kernel
theorem od_37 : rngPw 13 79 212993 4096 = true := by decide +kernel
end Go.Proofs.Ytmgfmkbniaepcaa
set_option linter.all false
namespace Go.Proofs.Ytmgfmkbniaepcaa
open Go Go.Vx
theorem od_38 : rngPw 13 79 221185 4096 = true := by decide +kernel
theorem od_39 : rngPw 13 79 229377 4096 = true := by decide +kernel
theorem od_40 : rngPw 13 79 237569 4096 = true := by decide +kernel
theorem od_41 : rngPw 13 79 245761 4096 = true := by decide +kernel
theorem od_42 : rngPw 13 79 253953 4096 = true := by decide +kernel
theorem od_43 : rngPw 13 78 262145 4096 = true := by decide +kernel
theorem od_44 : rngPw 13 78 270337 4096 = true := by decide +kernel
theorem od_45 : rngPw 13 78 278529 4096 = true := by decide +kernel
theorem od_46 : rngPw 13 78 286721 4096 = true := by decide +kernel
theorem od_47 : rngPw 13 78 294913 4096 = true := by decide +kernel
theorem od_48 : rngPw 13 78 303105 4096 = true := by decide +kernel
theorem od_49 : rngPw 13 78 311297 4096 = true := by decide +kernel
theorem od_50 : rngPw 13 78 319489 4096 = true := by decide +kernel
theorem od_51 : rngPw 13 78 327681 4096 = true := by decide +kernel
theorem od_52 : rngPw 13 78 335873 4096 = true := by decide +kernel
theorem od_53 : rngPw 13 78 344065 4096 = true := by decide +kernel
theorem od_54 : rngPw 13 78 352257 4096 = true := by decide +kernel
theorem od_55 : rngPw 13 78 360449 4096 = true := by decide +kernel
theorem od_56 : rngPw 13 78 368641 4096 = true := by decide +kernel
end Go.Proofs.Ytmgfmkbniaepcaa
set_option linter.all false
namespace Go.Proofs.Ytmgfmkbniaepcaa
open Go Go.Vx
theorem od_57 : rngPw 13 78 376833 4096 = true := by decide +kernel
theorem od_58 : rngPw 13 78 385025 4096 = true := by decide +kernel
theorem od_59 : rngPw 13 78 393217 4096 = true := by decide +kernel
theorem od_60 : rngPw 13 78 401409 4096 = true := by decide +kernel
theorem od_61 : rngPw 13 78 409601 4096 = true := by decide +kernel
theorem od_62 : rngPw 13 78 417793 4096 = true := by decide +kernel
theorem od_63 : rngPw 13 78 425985 4096 = true := by decide +kernel
theorem od_64 : rngPw 13 78 434177 4096 = true := by decide +kernel
theorem od_65 : rngPw 13 78 442369 4096 = true := by decide +kernel
theorem od_66 : rngPw 13 78 450561 4096 = true := by decide +kernel
theorem od_67 : rngPw 13 78 458753 4096 = true := by decide +kernel
theorem od_68 : rngPw 13 78 466945 4096 = true := by decide +kernel
theorem od_69 : rngPw 13 78 475137 4096 = true := by decide +kernel
theorem od_70 : rngPw 13 78 483329 4096 = true := by decide +kernel
theorem od_71 : rngPw 13 78 491521 4096 = true := by decide +kernel
theorem od_72 : rngPw 13 78 499713 195 = true := by decide +kernel
end Go.Proofs.Ytmgfmkbniaepcaa
set_option linter.all false
namespace Go.Proofs.Ytmgfmkbniaepcaa
open Go Go.Vx
theorem od_all : AllO 13 3 [(95, 1), (94, 2), (93, 4), (92, 8), (91, 16), (90, 32), (89, 64), (88, 128), (87, 256), (86, 512), (85, 1024), (84, 2048), (83, 4096), (82, 4096), (82, 4096), (81, 4096), (81, 4096), (81, 4096), (81, 4096), (80, 4096), (80, 4096), (80, 4096), (80, 4096), (80, 4096), (80, 4096), (80, 4096), (80, 4096), (79, 4096), (79, 4096), (79, 4096), (79, 4096), (79, 4096), (79, 4096), (79, 4096), (79, 4096), (79, 4096), (79, 4096), (79, 4096), (79, 4096), (79, 4096), (79, 4096), (79, 4096), (79, 4096), (78, 4096), (78, 4096), (78, 4096), (78, 4096), (78, 4096), (78, 4096), (78, 4096), (78, 4096), (78, 4096), (78, 4096), (78, 4096), (78, 4096), (78, 4096), (78, 4096), (78, 4096), (78, 4096), (78, 4096), (78, 4096), (78, 4096), (78, 4096), (78, 4096), (78, 4096), (78, 4096), (78, 4096), (78, 4096), (78, 4096), (78, 4096), (78, 4096), (78, 4096), (78, 195)] := ⟨⟨by decide, od_0⟩, ⟨by decide, od_1⟩, ⟨by decide, od_2⟩, ⟨by decide, od_3⟩, ⟨by decide, od_4⟩, ⟨by decide, od_5⟩, ⟨by decide, od_6⟩, ⟨by decide, od_7⟩, ⟨by decide, od_8⟩, ⟨by decide, od_9⟩, ⟨by decide, od_10⟩, ⟨by decide, od_11⟩, ⟨by decide, od_12⟩, ⟨by decide, od_13⟩, ⟨by decide, od_14⟩, ⟨by decide, od_15⟩, ⟨by decide, od_16⟩, ⟨by decide, od_17⟩, ⟨by decide, od_18⟩, ⟨by decide, od_19⟩, ⟨by decide, od_20⟩, ⟨by decide, od_21⟩, ⟨by decide, od_22⟩, ⟨by decide, od_23⟩, ⟨by decide, od_24⟩, ⟨by decide, od_25⟩, ⟨by decide, od_26⟩, ⟨by decide, od_27⟩, ⟨by decide, od_28⟩, ⟨by decide, od_29⟩, ⟨by decide, od_30⟩, ⟨by decide, od_31⟩, ⟨by decide, od_32⟩, ⟨by decide, od_33⟩, ⟨by decide, od_34⟩, ⟨by decide, od_35⟩, ⟨by decide, od_36⟩, ⟨by decide, od_37⟩, ⟨by decide, od_38⟩, ⟨by decide, od_39⟩, ⟨by decide, od_40⟩, ⟨by decide, od_41⟩, ⟨by decide, od_42⟩, ⟨by decide, od_43⟩, ⟨by decide, od_44⟩, ⟨by decide, od_45⟩, ⟨by decide, od_46⟩, ⟨by decide, od_47⟩, ⟨by decide, od_48⟩, ⟨by decide, od_49⟩, ⟨by decide, od_50⟩, ⟨by decide, od_51⟩, ⟨by decide, od_52⟩, ⟨by decide, od_53⟩, ⟨by decide, od_54⟩, ⟨by decide, od_55⟩, ⟨by decide, od_56⟩, ⟨by decide, od_57⟩, ⟨by decide, od_58⟩, ⟨by decide, od_59⟩, ⟨by decide, od_60⟩, ⟨by decide, od_61⟩, ⟨by decide, od_62⟩, ⟨by decide, od_63⟩, ⟨by decide, od_64⟩, ⟨by decide, od_65⟩, ⟨by decide, od_66⟩, ⟨by decide, od_67⟩, ⟨by decide, od_68⟩, ⟨by decide, od_69⟩, ⟨by decide, od_70⟩, ⟨by decide, od_71⟩, ⟨by decide, od_72⟩, trivial⟩
theorem narrow52 {n : Nat} (h1 : 1 ≤ n) (h2 : n ≤ 500101) : narrow 52 n := by
  refine narrow_far (by decide) h1 (by omega) (odd_all (J := 4 * 13) (B := 500101) (fun i hi => ?_) n h1 h2)
  have := AllO_is _ 3 od_all i (Nat.lt_of_lt_of_le (show i < 250050 by omega) (by decide))
  rw [Nat.add_comm 3] at this
  exact this
end Go.Proofs.Ytmgfmkbniaepcaa
set_option linter.all false
namespace Go.Proofs.Ytmgfmkbniaepcaa
open Go Go.Vx
set_option maxRecDepth 100000
def farT : List (List (Nat × Nat × Nat × Nat)) :=
  [[(376681, 345418, 376187, 344965), (523552, 440253, 503829, 423668), (360725, 278157, 310418, 239365), (275807, 195025, 665857, 470832), (239365, 155209, 556314, 360725), (407083, 242053, 440253, 261776), (689930, 376187, 690383, 376434)],
  [(112094, 103785, 472241, 437236), (4238, 3633, 582021, 498934), (96389, 76504, 572270, 454211), (472039, 346886, 370686, 272405), (272405, 185343, 693772, 472039), (760227, 478913, 153008, 96389), (856181, 499380, 3633, 2119), (874472, 472241, 103785, 56047)],
  [(419744, 391635, 122971, 114736), (427217, 371914, 556194, 484195), (80017, 64994, 542702, 440811), (214837, 162816, 640757, 485603), (275807, 195025, 665857, 470832), (648419, 427797, 325632, 214837), (700787, 431385, 129988, 80017), (484195, 278097, 743828, 427217), (621107, 332843, 391635, 209872)],
  [(216951, 203702, 335276, 314801), (559131, 492925, 252304, 222429), (567169, 469476, 548800, 454271), (354040, 275161, 412241, 320395), (413661, 301865, 505295, 368734), (66869, 45817, 670599, 459478), (640790, 412241, 275161, 177020), (454271, 274400, 484681, 292769), (222429, 126152, 763421, 432979), (722205, 384589, 407404, 216951)],
  [(140221, 132351, 439567, 414896), (310253, 276404, 340051, 302951), (523552, 440253, 503829, 423668), (96389, 76504, 572270, 454211), (149741, 112179, 520697, 390082), (275807, 195025, 665857, 470832), (726619, 484960, 224358, 149741), (760227, 478913, 153008, 96389), (407083, 242053, 440253, 261776), (579355, 325152, 552808, 310253), (547247, 289894, 811949, 430115)],
  [(234176, 222017, 452097, 428623), (501903, 451136, 299993, 269649), (274950, 234307, 497593, 424039), (17093, 13810, 614869, 496773), (635027, 486420, 326609, 250177), (368759, 267797, 385805, 280176), (547973, 377282, 535594, 368759), (736597, 480818, 236243, 154209), (786783, 486911, 27620, 17093), (848078, 497593, 234307, 137475), (720785, 400948, 181487, 100955), (857246, 452097, 222017, 117088)],
  [(181783, 173002, 381411, 362987), (306779, 277857, 488044, 442033), (455135, 392314, 372644, 321209), (207481, 170204, 488794, 400975), (323584, 252625, 466481, 364186), (141835, 105383, 541422, 402275), (275807, 195025, 665857, 470832), (613041, 412546, 210766, 141835), (728372, 466481, 252625, 161792), (741383, 451878, 340408, 207481), (321209, 186322, 784628, 455135), (442033, 244022, 555714, 306779), (881993, 463380, 346004, 181783)],
  [(238516, 227745, 285329, 272444), (459109, 418580, 463289, 422391), (427217, 371914, 556194, 484195), (32531, 27041, 583490, 485019), (96389, 76504, 572270, 454211), (214837, 162816, 640757, 485603), (443887, 321212, 329267, 238269), (559481, 386577, 642424, 443887), (648419, 427797, 325632, 214837), (760227, 478913, 153008, 96389), (809511, 486931, 54082, 32531), (484195, 278097, 743828, 427217), (840971, 461199, 837160, 459109), (772633, 404587, 227745, 119258)],
  [(270186, 258731, 299693, 286987), (376681, 345418, 376187, 344965), (462880, 406467, 222763, 195614), (523552, 440253, 503829, 423668), (246017, 198104, 378825, 305047), (360725, 278157, 310418, 239365), (588206, 434339, 164431, 121418), (275807, 195025, 665857, 470832), (677175, 458534, 434339, 294103), (239365, 155209, 556314, 360725), (610094, 378825, 503151, 312421), (407083, 242053, 440253, 261776), (391228, 222763, 797695, 454203), (689930, 376187, 690383, 376434), (832705, 434786, 258731, 135093)]]
def farX (q t : Nat) : Nat × Nat × Nat × Nat := (farT.getD (q - 8) []).getD (t - 1) (0, 0, 0, 0)
def farB (q t : Nat) (x : Nat × Nat × Nat × Nat) : Bool :=
  Nat.beq (x.2.2.1 * x.2.1) (x.1 * x.2.2.2 + 1) && Nat.blt 500101 (x.2.1 + x.2.2.2) && Nat.blt (2 ^ t * x.2.2.2 ^ q) (x.2.2.1 ^ q) && Nat.ble (x.1 ^ q * 70368744177665) (2 ^ t * x.2.1 ^ q * 70368744177664)
theorem far_table : ((List.range 9).all fun i => (List.range (i + 7)).all fun j => farB (i + 8) (j + 1) (farX (i + 8) (j + 1))) = true := by decide +kernel
theorem far_row {q t : Nat} (hq : 8 ≤ q ∧ q ≤ 16) (ht : 1 ≤ t ∧ t < q) : farB q t (farX q t) = true := by
  have h := List.all_eq_true.1 far_table (q - 8) (List.mem_range.2 (by omega))
  have h2 := List.all_eq_true.1 h (t - 1) (List.mem_range.2 (by omega))
  rw [show q - 8 + 8 = q by omega, show t - 1 + 1 = t by omega] at h2
  exact h2
theorem farey {p1 q1 p2 q2 m K N : Nat} (h : p2 * q1 = p1 * q2 + 1) (hN : N < q1 + q2) (hK : K ≤ N) (h2 : m * q2 < p2 * K) : m * q1 ≤ p1 * K := by
  refine Nat.le_of_not_lt fun hh => ?_
  -- K = q1 (p2 K - m q2) + q2 (m q1 - p1 K)
  obtain ⟨u, hu⟩ : ∃ u, p2 * K = m * q2 + (u + 1) := ⟨p2 * K - m * q2 - 1, by omega⟩
  obtain ⟨v, hv⟩ : ∃ v, m * q1 = p1 * K + (v + 1) := ⟨m * q1 - p1 * K - 1, by omega⟩
  have e1 : p2 * K * q1 = m * q2 * q1 + (u + 1) * q1 := by rw [hu, Nat.add_mul]
  have e2 : m * q1 * q2 = p1 * K * q2 + (v + 1) * q2 := by rw [hv, Nat.add_mul]
  have e3 : p2 * K * q1 = p1 * q2 * K + K := by rw [Nat.mul_right_comm, h, Nat.add_mul, Nat.one_mul]
  have e4 : m * q2 * q1 = m * q1 * q2 := Nat.mul_right_comm ..
  have e5 : p1 * K * q2 = p1 * q2 * K := Nat.mul_right_comm ..
  have e6 : 1 * q1 ≤ (u + 1) * q1 := Nat.mul_le_mul_right _ (by omega)
  have e7 : 1 * q2 ≤ (v + 1) * q2 := Nat.mul_le_mul_right _ (by omega)
  omega
theorem apart {D U H E Q : Nat} (hH : 0 < H) (hU : 0 < U) (hE : H * (E + 1) ≤ Q) (h : U * (H + 1) ≤ D * H) : ¬ D ^ Q ≤ U ^ Q * 2 ^ E := by
  intro hh
  have a := Nat.pow_le_pow_left h Q
  rw [Nat.mul_pow, Nat.mul_pow] at a
  have b : 2 ^ (E + 1) * H ^ Q ≤ (H + 1) ^ Q := by
    have c := Nat.pow_le_pow_left (two_le H hH) (E + 1)
    rw [Nat.mul_pow, ← Nat.pow_mul, ← Nat.pow_mul] at c
    obtain ⟨r, hr⟩ : ∃ r, Q = H * (E + 1) + r := ⟨Q - H * (E + 1), by omega⟩
    rw [hr, Nat.pow_add H, Nat.pow_add (H + 1), ← Nat.mul_assoc]
    exact Nat.mul_le_mul c (Nat.pow_le_pow_left (Nat.le_succ H) r)
  have hHQ : 0 < H ^ Q := Nat.pow_pos hH
  have hUQ : 0 < U ^ Q := Nat.pow_pos hU
  have c1 := Nat.mul_le_mul_left (U ^ Q) b
  have c2 := Nat.mul_le_mul_right (H ^ Q) hh
  have e1 : U ^ Q * (2 ^ (E + 1) * H ^ Q) = 2 * (U ^ Q * 2 ^ E * H ^ Q) := by
    rw [Nat.pow_succ]
    simp only [Nat.mul_assoc, Nat.mul_left_comm, Nat.mul_comm]
  have e2 : 0 < U ^ Q * 2 ^ E * H ^ Q := Nat.mul_pos (Nat.mul_pos hUQ (p2_pos E)) hHQ
  omega
theorem gap_lift {mq kq pq qq T H H1 : Nat} (r4 : pq * H1 ≤ T * qq * H) (s3 : mq * qq ≤ pq * kq) (hp : 0 < pq) : mq * H1 ≤ T * kq * H := by
  refine Nat.le_of_mul_le_mul_right (c := pq) ?_ hp
  have y1 := Nat.mul_le_mul_left mq r4
  have y2 := Nat.mul_le_mul_left (T * H) s3
  have z1 : mq * H1 * pq = mq * (pq * H1) := by rw [Nat.mul_assoc, Nat.mul_comm pq]
  have z2 : mq * (T * qq * H) = T * H * (mq * qq) := by simp only [Nat.mul_assoc, Nat.mul_left_comm, Nat.mul_comm]
  have z3 : T * kq * H * pq = T * H * (pq * kq) := by simp only [Nat.mul_assoc, Nat.mul_left_comm, Nat.mul_comm]
  omega
theorem sc_exact {m p q k : Nat} (hm : 1 ≤ m ∧ m ≤ 500000) (hq : (8 ≤ q ∧ q ≤ 16) ∨ (q = 1 ∧ p = 0)) (hp : p ≤ 1000) (hk : 1 ≤ k ∧ k ≤ 1000000000001) (hs : 0 ≤ signF (scL m p q k)) : 2 ^ p * k ^ q ≤ m ^ q := by
  refine Nat.le_of_not_lt fun hh => ?_
  have hq1 : 1 ≤ q ∧ q ≤ 16 := by omega
  obtain ⟨a, t, ht, hpa⟩ : ∃ a t, t < q ∧ p = q * a + t := ⟨p / q, p % q, Nat.mod_lt _ (by omega), (Nat.div_add_mod p q).symm⟩
  have hm0 : 0 < m := hm.1
  have e0 : 2 ^ p * k ^ q = 2 ^ t * (k * 2 ^ a) ^ q := by
    rw [hpa, Nat.pow_add, Nat.mul_pow, ← Nat.pow_mul, Nat.mul_comm a q]
    simp only [Nat.mul_assoc, Nat.mul_left_comm, Nat.mul_comm]
  obtain ⟨K, hK⟩ : ∃ K, K = k * 2 ^ a := ⟨_, rfl⟩
  have hkK : k ≤ K := by rw [hK]; exact Nat.le_mul_of_pos_right _ (p2_pos a)
  rw [e0, ← hK] at hh
  -- K is not much above m
  have h14 := sc_near hm (by omega) (by omega) hk hs
  rw [e0, ← hK] at h14
  have hKm : K * QS ^ 2 ≤ m * (QS + 1) ^ 2 := by
    refine und_ratio (by rw [QS_num]; decide) ?_
    have x1 : (K ^ QS) ^ q ≤ (m ^ QS * 2 ^ 2) ^ q := by
      refine Nat.le_trans ?_ (Nat.le_trans h14 (Nat.le_of_eq ?_))
      · rw [← Nat.pow_mul, Nat.mul_comm QS q, Nat.pow_mul]
        exact Nat.pow_le_pow_left (Nat.le_mul_of_pos_left _ (p2_pos t)) QS
      · rw [Nat.mul_pow, ← Nat.pow_mul, ← Nat.pow_mul, Nat.mul_comm q QS, ← Nat.pow_mul]
    exact (Nat.pow_le_pow_iff_left (by omega)).1 x1
  have hKN : K ≤ 500101 := by
    rw [QS_num] at hKm
    simp only [Nat.reduceAdd, Nat.reducePow] at hKm
    omega
  have h52 := sc_step (J := 52) (by decide) hm (by omega) (by omega) hk hs (narrow52 hm.1 (by omega)) (narrow52 hk.1 (by omega))
  rw [e0, ← hK] at h52
  have hQn : 4503599627370496 ≤ 2 ^ 52 := by decide
  generalize 2 ^ 52 = Q at h52 hQn
  have hU : 0 < m ^ q := Nat.pow_pos hm0
  rcases Nat.eq_zero_or_pos t with h0 | h0
  · subst h0
    rw [Nat.pow_zero, Nat.one_mul] at hh h52
    have hKm1 : m + 1 ≤ K := (Nat.pow_lt_pow_iff_left (by omega)).1 hh
    refine apart (H := m) hm0 hU (E := 2 * q) ?_ ?_ h52
    · have : m * (2 * q + 1) ≤ 500000 * 33 := Nat.mul_le_mul hm.2 (by omega)
      omega
    · -- m^q (m + 1) <= K^q m
      obtain ⟨r, rfl⟩ : ∃ r, q = r + 1 := ⟨q - 1, by omega⟩
      have k1 : m ^ r ≤ K ^ r := Nat.pow_le_pow_left (by omega) r
      rw [Nat.pow_succ, Nat.pow_succ, Nat.mul_assoc, Nat.mul_assoc, Nat.mul_comm K m]
      exact Nat.mul_le_mul k1 (Nat.mul_le_mul_left m hKm1)
  · have hq8 : 8 ≤ q ∧ q ≤ 16 := by omega
    have hr := far_row hq8 (t := t) ⟨h0, ht⟩
    generalize farX q t = X at hr
    obtain ⟨p1, q1, p2, q2⟩ := X
    simp only [farB, Bool.and_eq_true] at hr
    obtain ⟨⟨⟨r1, r2⟩, r3⟩, r4⟩ := hr
    have r1 := Nat.eq_of_beq_eq_true r1
    have r2 : 500101 < q1 + q2 := Nat.le_of_ble_eq_true r2
    have r3 : 2 ^ t * q2 ^ q < p2 ^ q := Nat.le_of_ble_eq_true r3
    have r4 := Nat.le_of_ble_eq_true r4
    have s1 : m * q2 < p2 * K := by
      refine (Nat.pow_lt_pow_iff_left (show q ≠ 0 by omega)).1 ?_
      rw [Nat.mul_pow, Nat.mul_pow]
      have x1 : m ^ q * q2 ^ q ≤ 2 ^ t * K ^ q * q2 ^ q := Nat.mul_le_mul_right _ (Nat.le_of_lt hh)
      have hK0 : 0 < K ^ q := Nat.pow_pos (by omega)
      have x2 : 2 ^ t * q2 ^ q * K ^ q < p2 ^ q * K ^ q := Nat.mul_lt_mul_of_pos_right r3 hK0
      have x3 : 2 ^ t * K ^ q * q2 ^ q = 2 ^ t * q2 ^ q * K ^ q := Nat.mul_right_comm ..
      omega
    have s2 := farey r1 r2 hKN s1
    have s3 := Nat.pow_le_pow_left s2 q
    rw [Nat.mul_pow, Nat.mul_pow] at s3
    refine apart (H := 70368744177664) (by decide) hU (E := 2 * q) ?_ ?_ h52
    · have : 70368744177664 * (2 * q + 1) ≤ 70368744177664 * 33 := Nat.mul_le_mul_left _ (by omega)
      omega
    · -- m^q (H+1) <= 2^t K^q H, by m q1 <= p1 K
      have hp1 : 0 < p1 := by
        refine Nat.pos_of_ne_zero fun h => ?_
        subst h
        rw [Nat.zero_mul] at s2
        have hq10 : 0 < q1 := by
          refine Nat.pos_of_ne_zero fun h => ?_
          subst h
          rw [Nat.mul_zero] at r1; omega
        have : 0 < m * q1 := Nat.mul_pos hm0 hq10
        omega
      have hpq : 0 < p1 ^ q := Nat.pow_pos hp1
      exact gap_lift r4 s3 hpq
end Go.Proofs.Ytmgfmkbniaepcaa
set_option linter.all false
namespace Go.Proofs.Ytmgfmkbniaepcaa
open Go Go.Vx
set_option maxRecDepth 100000
theorem rootS_sg {m num den : Nat} (hm : 1 ≤ m ∧ m ≤ 500000) (hn : num ≤ 1000000000) (hd : 1 ≤ den ∧ den ≤ 1000000) : ∃ k : Nat, k ≤ 2000000 ∧ (rootS (m : Int) (num : Int) (den : Int)).1 = (k : Int) ∧
    (1 ≤ k → 0 ≤ signF (scL m num den k)) ∧ m ^ den < 2 ^ num * (k + 1) ^ den ∧ (rootS (m : Int) (num : Int) (den : Int)).2 = (decide (0 < k) && oneF (scL m num den k)) := by
  have hat : ∀ k : Nat, atF ([((2 : Int), -(num : Int))] ++ [((m : Int), (den : Int))]) (den : Int) (k : Int) = scL m num den k := fun k => rfl
  obtain ⟨f, hf⟩ : ∃ f, f = isF ([((2 : Int), -(num : Int))] ++ [((m : Int), (den : Int))]) (den : Int) := ⟨_, rfl⟩
  have hfk : ∀ k : Nat, f (k : Int) = true ↔ (k = 0 ∨ 0 ≤ signF (scL m num den k)) := fun k => by
    rw [hf, isF, hat, Bool.or_eq_true, decide_eq_true_eq, decide_eq_true_eq]; omega
  have htop : f 1000000000001 = false := by
    cases hc : f 1000000000001 with
    | false => rfl
    | true =>
      rcases (hfk 1000000000001).1 hc with h | h
      · cases h
      · have := sc_small hm hn hd ⟨by decide, by decide⟩ h
        omega
  have e1 : (rootS (m : Int) (num : Int) (den : Int)).1 = bisL 64 f 0 1000000000001 ∧ (rootS (m : Int) (num : Int) (den : Int)).2 = (decide (0 < bisL 64 f 0 1000000000001) && oneF (atF ([((2 : Int), -(num : Int))] ++ [((m : Int), (den : Int))]) (den : Int) (bisL 64 f 0 1000000000001))) := by
    unfold rootS prodF
    rw [← hf, if_neg (by rw [htop]; decide)]
    exact ⟨rfl, rfl⟩
  obtain ⟨s1, s2⟩ := bisL_spec (t := f) 64 0 1000000000001 (by decide) (by decide)
  have hr := bisL_rng (t := f) 64 0 1000000000001 (by decide)
  obtain ⟨e1, e2⟩ := e1
  rw [e1, e2]
  generalize bisL 64 f 0 1000000000001 = b at *
  obtain ⟨k, rfl⟩ : ∃ k : Nat, b = (k : Int) := ⟨b.toNat, by omega⟩
  have hs : 1 ≤ k → 0 ≤ signF (scL m num den k) := fun hk => by
    rcases s1 with h | h
    · omega
    · rcases (hfk k).1 h with h | h
      · omega
      · exact h
  have hk2 : k ≤ 2000000 := by
    rcases Nat.eq_zero_or_pos k with h0 | h0
    · omega
    · exact sc_small hm hn hd ⟨h0, by omega⟩ (hs h0)
  refine ⟨k, hk2, rfl, hs, ?_, ?_⟩
  · rcases s2 with s2 | s2
    · omega
    · refine sc_neg hm hn hd (by omega) fun hh => ?_
      have := (hfk (k + 1)).2 (Or.inr hh)
      rw [Int.natCast_add, show ((1 : Nat) : Int) = 1 from rfl, s2] at this
      cases this
  · rw [hat]
    congr 1
    exact decide_eq_decide.2 (by omega)
theorem one_self {m : Nat} (hm : 1 ≤ m ∧ m ≤ 500000) : oneF (scL m 0 1 m) = true := by
  have hl := sc_ok (m := m) (num := 0) (den := 1) (k := m) hm (by decide) (by decide) (by omega)
  have hr := baseF_rng hl (by simp [scL])
  unfold oneF
  rw [List.all_eq_true]
  intro b hb
  have hb2 := hr b hb
  unfold sumB
  rw [sumB_is hb2.1 hb2.2 _ 0 hl (by simp [scL]) (by simp [scL]) (by simp [scL])]
  rw [decide_eq_true_eq]
  simp [scL, upS, dnS]
theorem rootS_ex {m p q : Nat} (hm : 1 ≤ m ∧ m ≤ 500000) (hq : (8 ≤ q ∧ q ≤ 16) ∨ (q = 1 ∧ p = 0)) (hp : p ≤ 1000) : ∃ k : Nat, k ≤ 2000000 ∧ (rootS (m : Int) (p : Int) (q : Int)).1 = (k : Int) ∧
    2 ^ p * k ^ q ≤ m ^ q ∧ m ^ q < 2 ^ p * (k + 1) ^ q ∧ ((rootS (m : Int) (p : Int) (q : Int)).2 = true → m ^ q = 2 ^ p * k ^ q) ∧ (p = 0 → q = 1 → k = m ∧ (rootS (m : Int) (p : Int) (q : Int)).2 = true) := by
  obtain ⟨k, k1, k2, k3, k4, k5⟩ := rootS_sg (m := m) (num := p) (den := q) hm (by omega) (by omega)
  have hA : 2 ^ p * k ^ q ≤ m ^ q := by
    rcases Nat.eq_zero_or_pos k with h0 | h0
    · subst h0
      rw [Nat.zero_pow (by omega), Nat.mul_zero]
      exact Nat.zero_le _
    · exact sc_exact hm hq hp ⟨h0, by omega⟩ (k3 h0)
  refine ⟨k, k1, k2, hA, k4, fun hx => ?_, fun h0 h1 => ?_⟩
  · rw [k5, Bool.and_eq_true, decide_eq_true_eq] at hx
    have := one_sound (sc_ok (m := m) (num := p) (den := q) (k := k) hm (by omega) (by omega) (by omega)) (by simp [scL]) hx.2
    rw [sc_up _ _ _ _ (by omega), sc_dn _ _ _ _ (by omega)] at this
    exact this
  · subst h0; subst h1
    rw [Nat.pow_zero, Nat.one_mul, Nat.pow_one, Nat.pow_one] at hA k4
    obtain rfl : k = m := by omega
    refine ⟨rfl, ?_⟩
    rw [k5, one_self hm, decide_eq_true (by omega)]
    rfl
theorem dia_ex {d c mn md cn cd : Int} {b : Int × Int} (hs : chkS ⟨d, c, [b], mn, md, cn, cd⟩ = 0) (hb : b.2 ≤ 16) {note : Int} (hn : b.1 ≤ note ∧ note ≤ 139) :
    ∃ k m p q : Nat, ((m : Int) = d - c ∧ (p : Int) = note - b.1 ∧ (q : Int) = b.2) ∧ (1 ≤ m ∧ m ≤ 500000) ∧ (8 ≤ q ∧ q ≤ 16) ∧ p ≤ 139 ∧ k ≤ m ∧
      (diaS ⟨d, c, [b], mn, md, cn, cd⟩ note).1 = c + k ∧ k ^ q * 2 ^ p ≤ m ^ q ∧ m ^ q < (k + 1) ^ q * 2 ^ p ∧
      (((diaS ⟨d, c, [b], mn, md, cn, cd⟩ note).2 = c + k ∧ k ^ q * 2 ^ p = m ^ q) ∨ ((diaS ⟨d, c, [b], mn, md, cn, cd⟩ note).2 = c + k + 1 ∧ k + 1 ≤ m)) := by
  have hr := okS_rng hs
  have h3 := (okS_len hs).2.2
  simp only [okS, Bool.and_eq_true] at h3
  have hb8 := ((benL_1 [b]).1 h3.1.2 0 (by simp)).1
  have hb8 : 0 ≤ b.1 ∧ b.1 ≤ 139 ∧ 8 ≤ b.2 ∧ b.2 ≤ 64 := hb8
  simp only at hr
  obtain ⟨m, hm⟩ : ∃ m : Nat, (m : Int) = d - c := ⟨(d - c).toNat, by omega⟩
  obtain ⟨p, hp⟩ : ∃ p : Nat, (p : Int) = note - b.1 := ⟨(note - b.1).toNat, by omega⟩
  obtain ⟨q, hq⟩ : ∃ q : Nat, (q : Int) = b.2 := ⟨b.2.toNat, by omega⟩
  have hm1 : 1 ≤ m ∧ m ≤ 500000 := by omega
  have hq1 : 8 ≤ q ∧ q ≤ 16 := by omega
  have hx := (exp_rng hs (note := note) (by omega)).1
  simp only at hx
  by_cases h0 : note = b.1
  · -- the first note
    have e : expF [b] note = (0, 1) := by
      rw [hx, exE, if_pos (by omega)]; rfl
    obtain ⟨k, k1, k2, k3, k4, k5, k6⟩ := rootS_ex (m := m) (p := 0) (q := 1) hm1 (Or.inr ⟨rfl, rfl⟩) (by decide)
    obtain ⟨rfl, k6⟩ := k6 rfl rfl
    have hp0 : p = 0 := by omega
    refine ⟨k, k, p, q, ⟨hm, hp, hq⟩, hm1, hq1, by omega, Nat.le_refl _, ?_, ?_, ?_, ?_⟩
    · unfold diaS
      simp only
      rw [e, ← hm]
      show c + (rootS (k : Int) (0 : Int) (1 : Int)).1 = _
      rw [show rootS (k : Int) (0 : Int) (1 : Int) = rootS (k : Int) ((0 : Nat) : Int) ((1 : Nat) : Int) from rfl, k2]
    · rw [hp0, Nat.pow_zero, Nat.mul_one]
      exact Nat.le_refl _
    · rw [hp0, Nat.pow_zero, Nat.mul_one]
      exact Nat.pow_lt_pow_left (Nat.lt_succ_self k) (by omega)
    · left
      constructor
      · unfold diaS
        simp only
        rw [e, ← hm]
        show (if (rootS (k : Int) ((0 : Nat) : Int) ((1 : Nat) : Int)).2 = true then c + (rootS (k : Int) ((0 : Nat) : Int) ((1 : Nat) : Int)).1 else c + (rootS (k : Int) ((0 : Nat) : Int) ((1 : Nat) : Int)).1 + 1) = _
        rw [if_pos k6, k2]
      · rw [hp0, Nat.pow_zero, Nat.mul_one]
  · have e : expF [b] note = ((p : Int), (q : Int)) := by
      rw [hx, exE, if_neg (by omega), exE, Exn.add, if_pos (by simp only; omega)]
      simp only [Exn.add, if_neg (show ¬ (0 : Int) < 0 by decide)]
      rw [hp, hq, Int.zero_mul, Int.mul_one, Int.one_mul, Int.zero_add]
    obtain ⟨k, k1, k2, k3, k4, k5, _⟩ := rootS_ex (m := m) (p := p) (q := q) hm1 (Or.inl hq1) (by omega)
    have hp1 : 1 ≤ p := by omega
    have hkm : k + 1 ≤ m := by
      refine (Nat.pow_lt_pow_iff_left (show q ≠ 0 by omega)).1 (?_ : k ^ q < m ^ q)
      rcases Nat.eq_zero_or_pos k with hk | hk
      · subst hk
        rw [Nat.zero_pow (by omega)]
        exact Nat.pow_pos hm1.1
      · have hkq : 0 < k ^ q := Nat.pow_pos hk
        have h2 : 2 ^ 1 ≤ 2 ^ p := Nat.pow_le_pow_right (by decide) hp1
        have := Nat.mul_le_mul_right (k ^ q) h2
        rw [Nat.pow_one] at this
        omega
    have ed : (diaS ⟨d, c, [b], mn, md, cn, cd⟩ note) = (c + k, if (rootS (m : Int) (p : Int) (q : Int)).2 = true then c + (k : Int) else c + (k : Int) + 1) := by
      unfold diaS
      simp only
      rw [e, ← hm]
      simp only
      rw [k2]
    refine ⟨k, m, p, q, ⟨hm, hp, hq⟩, hm1, hq1, by omega, by omega, by rw [ed], by rw [Nat.mul_comm]; exact k3, by rw [Nat.mul_comm]; exact k4, ?_⟩
    rw [ed]
    simp only
    split
    · rename_i hx
      left
      exact ⟨rfl, by rw [Nat.mul_comm]; exact (k5 hx).symm⟩
    · right
      exact ⟨rfl, hkm⟩
end Go.Proofs.Ytmgfmkbniaepcaa
set_option linter.all false
namespace Go.Proofs.Ytmgfmkbniaepcaa
open Go Go.Vx
set_option maxRecDepth 100000
set_option maxHeartbeats 4000000
def v23 : VF := { ntmps := 27, res := [.tmp 4, .tmp 5], body :=
 (.seq (.region [u1 4 .mov [.cn .nil],
 u1 5 .mov [.cn (.bool false)]])
 (.seq (.region [u1 8 (.call 11) [.cn (.int .u64 1)],
 u1 6 .mov [.tm 8]])
 (.seq (.seq (.region [u1 9 .mov [.tm 0],
 u1 10 .mov [.tm 6],
 u1 11 (.call 27) [.tm 9, .tm 10],
 u1 12 (.cmp .leq) [.tm 11, .cn (.int .i64 0)]])
 (.cond (.tm 12) (.region [u1 13 .mov [.tm 1],
 u1 14 .min [.tm 13, .cn (.int .i64 1)],
 u1 1 .mov [.tm 14]])
  .skip))
 (.seq (.seq (.region [u1 7 .mov [.cn (.int .i64 0)]])
 (.block 0 (.loop (.seq (.seq (.region [u1 15 .mov [.tm 7],
 u1 16 .mov [.tm 1],
 u1 17 (.cmp .lss) [.tm 15, .tm 16]])
 (.cond (.tm 17) .skip
  (.exit 0)))
 (.seq (.block 1 (.seq (.region [u1 20 .mov [.tm 6],
 u1 21 .mov [.tm 0],
 u1 22 (.call 38) [.tm 20, .tm 21],
 u1 6 .mov [.tm 22]])
 (.seq (.region [u1 23 .mov [.tm 6],
 u1 24 .len [.tm 23],
 u1 25 (.cmp .gtr) [.tm 24, .cn (.int .i64 512)]])
 (.cond (.tm 25) (.seq (.region [u1 4 .mov [.cn .nil],
 u1 5 .mov [.cn (.bool false)]])
 .ret)
  .skip))))
 (.region [u1 18 .mov [.tm 7],
 u1 19 (.ari .add) [.tm 18, .cn (.int .i64 1)],
 u1 7 .mov [.tm 19]]))))))
 (.seq (.region [u1 26 .mov [.tm 6],
 u1 4 .mov [.tm 26],
 u1 5 .mov [.cn (.bool true)]])
 .ret))))) }
theorem v23_is : vfunc Try.prog Try.f23 = some v23 := by kernel_rfl
def powerC : Ctr := { alias := false, of := fun l => match l with
  | [.vs _ _ n sz get, .int .i64 k] => .ex Nat fun a => .ex Nat fun e => .pre (padP a n sz get ∧ n = nl a ∧ k = (e : Int) ∧ e ≤ 20000 ∧ nl a ≤ 512 ∧ nl (a ^ e) ≤ 512) (.fin (.tup [natS false (a ^ e), .bool true]) [])
  | _ => noC }
def T0 : Env := { ct := fun n => match n with | 11 => some ofC | 27 => some orderC | 38 => some timesC | _ => none, fn := fun _ => none, meth := fun _ _ => none }
theorem T0_ct11 : T0.ct 11 = some ofC := rfl
theorem T0_ct27 : T0.ct 27 = some orderC := rfl
theorem T0_ct38 : T0.ct 38 = some timesC := rfl
theorem T0_ok : EnvOk Try.prog T0 := by
  refine ⟨fun f c h => ?_, fun f vf h => ?_, (fun _ _ _ h => by cases h), by kernel_rfl, (fun _ h => by cases h)⟩
  · simp only [T0] at h
    split at h
    · cases h; exact ⟨of_ok, Try.f11, Try.func11, by kernel_rfl, by kernel_rfl⟩
    · cases h; exact ⟨order_ok, Try.f27, Try.func27, by kernel_rfl, by kernel_rfl⟩
    · cases h; exact ⟨times_ok, Try.f38, Try.func38, by kernel_rfl, by kernel_rfl⟩
    · cases h
  · cases h
theorem pow_cut (a e : Nat) (h : a ≤ 1) : a ^ (min e 1) = a ^ e := by
  rcases Nat.eq_zero_or_pos e with h0 | h0
  · subst h0; rfl
  · rw [Nat.min_eq_right h0, Nat.pow_one]
    rcases Nat.le_one_iff_eq_zero_or_eq_one.1 h with rfl | rfl
    · rw [Nat.zero_pow h0]
    · rw [Nat.one_pow]
theorem pow_fits {a e i : Nat} (he : nl (a ^ e) ≤ 512) (hi : i ≤ e) : nl (a ^ i) ≤ 512 := by
  rcases Nat.eq_zero_or_pos a with h | h
  · subst h
    rcases Nat.eq_zero_or_pos i with h0 | h0
    · subst h0; exact Nat.le_trans (nl_le (n := 1).2 (by decide)) (by decide)
    · rw [Nat.zero_pow h0, nl_0]; decide
  · exact Nat.le_trans (nl_mono (Nat.pow_le_pow_right h hi)) he
theorem ans_nb {k : SV → List HO → Prop} {al : Bool} {hp : List HO} {z b : Bool} {a : Nat} (h : k (.tup [natS z a, .bool b]) []) : answers al k (.tup [.vs true z (nl a) 1 (fun k => [.int .u32 (dig a k)]), .bool b]) hp :=
  ans_le h (le_self (.tup [natS z a, .bool b]) ⟨trivial, trivial, trivial⟩) (fun _ => by simp [natS, freshS, freshL])
theorem power_ok : powerC.ok Try.prog 23 := by
  refine contract Try.func23 v23_is T0_ok 300 powerC fun args k h => ?_
  simp only [powerC] at h
  split at h
  · rename_i t1 z1 n sz get e'
    obtain ⟨a, e, ⟨⟨rfl, hn, ha, hg⟩, rfl, rfl, he2, hna, hfit⟩, h⟩ := h
    refine ⟨[.vs t1 z1 (nl a) 1 (fun k => [.int .u32 (dig a k)]), .int .i64 e], ⟨by simpa [le] using hg, ⟨rfl, rfl⟩, trivial⟩, ?_⟩
    (try dsimp only [v23, T0_ct11, T0_ct27, T0_ct38, ofC, orderC, timesC, natS, go_sem, reduceIte])
    (try simp only [t_all, forall_const, ne_eq, implies_true, Nat.reduceAdd, Nat.reduceLeDiff, reduceCtorEq, Nat.reduceEqDiff])
    have h : k (.tup [natS false (a ^ e), .bool true]) [] := h
    refine ⟨by decide, a, 1, ⟨padP_nl (by omega), padP_nl (show nl 1 ≤ 100000 from Nat.le_trans (nl_le (n := 1).2 (by decide)) (by decide))⟩, fun hc => ?_, fun hc => ?_⟩
    · have ha1 : a ≤ 1 := by
        unfold ordN at hc
        split at hc
        · omega
        · split at hc <;> omega
      obtain ⟨K, hK⟩ : ∃ K : Nat, K = min e 1 := ⟨_, rfl⟩
      have hKv : a ^ K = a ^ e := by rw [hK]; exact pow_cut a e ha1
      have hKe : K ≤ e := by omega
      have hKi : min (e : Int) 1 = (K : Int) := by omega
      rw [hKi]
      refine Loop.keep [0, 0, 2, 0, 0, 0] Nat (fun i => [(6, .vs true false (nl (a ^ i)) 1 (fun k => [.int .u32 (dig (a ^ i) k)])), (7, .int .i64 i)]) (fun _ => []) [] (fun i => i ≤ K) (fun i => K - i) ?_ ?_
      · refine ⟨0, Nat.zero_le _, ?_⟩
        (try dsimp only [go_sem, reduceIte])
        simp only [Nat.pow_zero, fin_all, imp_self, implies_true, true_and, and_true]
        simp
        exact fun k _ => leXL_self _
      · rintro i hi
        (try dsimp only [T0_ct38, timesC, natS, Int.toNat_natCast, go_sem, reduceIte])
        (try simp only [t_all, forall_const, ne_eq, implies_true, Nat.reduceAdd, Nat.reduceLeDiff, reduceCtorEq, Nat.reduceEqDiff])
        have hf1 := pow_fits hfit (show i ≤ e by omega)
        refine ⟨fun hlt => ⟨a ^ i, a, ⟨padP_nl (by omega), padP_nl (by omega), by omega⟩, fun hb => ?_, fun hb => ?_⟩, fun hge => ?_⟩
        · exfalso
          have hf2 := pow_fits hfit (show i + 1 ≤ e by omega)
          rw [Nat.pow_succ] at hf2; omega
        · refine ⟨i + 1, by omega, by omega, ?_⟩
          have hw : IntKind.i64.wrap ((i : Int) + 1) = ((i + 1 : Nat) : Int) := by rw [IntWalk.i64_in _ (by omega)]; omega
          simp only [hw, Nat.pow_succ, fin_all, imp_self, implies_true, true_and, and_true]
        · obtain rfl : i = K := by omega
          rw [hKv]
          exact ans_nb h
    · obtain ⟨K, hK⟩ : ∃ K : Nat, K = e := ⟨_, rfl⟩
      have hKv : a ^ K = a ^ e := by rw [hK]
      have hKe : K ≤ e := by omega
      have hKi : (e : Int) = (K : Int) := by omega
      rw [hKi]
      refine Loop.keep [0, 0, 2, 0, 0, 0] Nat (fun i => [(6, .vs true false (nl (a ^ i)) 1 (fun k => [.int .u32 (dig (a ^ i) k)])), (7, .int .i64 i)]) (fun _ => []) [] (fun i => i ≤ K) (fun i => K - i) ?_ ?_
      · refine ⟨0, Nat.zero_le _, ?_⟩
        (try dsimp only [go_sem, reduceIte])
        simp only [Nat.pow_zero, fin_all, imp_self, implies_true, true_and, and_true]
        simp
        exact fun k _ => leXL_self _
      · rintro i hi
        (try dsimp only [T0_ct38, timesC, natS, Int.toNat_natCast, go_sem, reduceIte])
        (try simp only [t_all, forall_const, ne_eq, implies_true, Nat.reduceAdd, Nat.reduceLeDiff, reduceCtorEq, Nat.reduceEqDiff])
        have hf1 := pow_fits hfit (show i ≤ e by omega)
        refine ⟨fun hlt => ⟨a ^ i, a, ⟨padP_nl (by omega), padP_nl (by omega), by omega⟩, fun hb => ?_, fun hb => ?_⟩, fun hge => ?_⟩
        · exfalso
          have hf2 := pow_fits hfit (show i + 1 ≤ e by omega)
          rw [Nat.pow_succ] at hf2; omega
        · refine ⟨i + 1, by omega, by omega, ?_⟩
          have hw : IntKind.i64.wrap ((i : Int) + 1) = ((i + 1 : Nat) : Int) := by rw [IntWalk.i64_in _ (by omega)]; omega
          simp only [hw, Nat.pow_succ, fin_all, imp_self, implies_true, true_and, and_true]
        · obtain rfl : i = K := by omega
          rw [hKv]
          exact ans_nb h
  · exact h.1.elim
end Go.Proofs.Ytmgfmkbniaepcaa
set_option linter.all false
namespace Go.Proofs.Ytmgfmkbniaepcaa
open Go Go.Vx
set_option maxRecDepth 100000
set_option maxHeartbeats 4000000
def v10 : VF := { ntmps := 34, res := [.tmp 4, .tmp 5], body :=
 (.seq (.region [u1 4 .mov [.cn .nil],
 u1 5 .mov [.cn (.int .i64 0)]])
 (.seq (.region [u1 9 .mov [.tm 0],
 u1 10 (.buildSlice 1 1 [.nil] [(0, 1)]) [.tm 9],
 u1 11 (.call 22) [.tm 10],
 u1 6 .mov [.tm 11]])
 (.seq (.seq (.region [u1 12 .mov [.tm 6],
 u1 13 (.cmp .eql) [.tm 12, .cn (.int .i64 0)],
 u1 14 .mov [.tm 13],
 u2 15 14 true .mov [.tm 1],
 u2 16 14 true (.cmp .lss) [.tm 15, .cn (.int .i64 0)],
 u2 17 14 true .mov [.tm 16],
 u2 18 17 false .mov [.tm 1],
 u2 19 17 false (.cmp .gtr) [.tm 18, .cn (.int .i64 20000)],
 u2 20 14 true .or [.tm 17, .tm 19],
 u1 21 .and [.tm 14, .tm 20]])
 (.cond (.tm 21) (.region [u1 6 .mov [.cn (.int .i64 2)]])
  .skip))
 (.seq (.seq (.region [u1 22 .mov [.tm 6],
 u1 23 (.cmp .neq) [.tm 22, .cn (.int .i64 0)]])
 (.cond (.tm 23) (.seq (.region [u1 24 .mov [.tm 6],
 u1 4 .mov [.cn .nil],
 u1 5 .mov [.tm 24]])
 .ret)
  .skip))
 (.seq (.region [u1 26 .mov [.tm 0],
 u1 27 .mov [.tm 1],
 u1 28 (.call 23) [.tm 26, .tm 27],
 u1 25 .mov [.tm 28],
 u1 29 (.ext 0) [.tm 25],
 u1 30 (.ext 1) [.tm 25],
 u1 7 .mov [.tm 29],
 u1 8 .mov [.tm 30]])
 (.seq (.seq (.region [u1 31 .mov [.tm 8],
 u1 32 .not [.tm 31]])
 (.cond (.tm 32) (.seq (.region [u1 4 .mov [.cn .nil],
 u1 5 .mov [.cn (.int .i64 3)]])
 .ret)
  .skip))
 (.seq (.region [u1 33 .mov [.tm 7],
 u1 4 .mov [.tm 33],
 u1 5 .mov [.cn (.int .i64 0)]])
 .ret))))))) }
theorem v10_is : vfunc Try.prog Try.f10 = some v10 := by kernel_rfl
def npowC : Ctr := { alias := false, of := fun l => match l with
  | [.vs _ z n sz get, .int .i64 k] => .ex Nat fun a => .ex Nat fun e => .pre (padP a n sz get ∧ n = nl a ∧ k = (e : Int) ∧ e ≤ 20000 ∧ nl a ≤ 512 ∧ nl (a ^ e) ≤ 512) (.fin (.tup [natS false (a ^ e), .int .i64 0]) [])
  | _ => noC }
def T2 : Env := { ct := fun n => match n with | 22 => some badnC | 23 => some powerC | _ => none, fn := fun _ => none, meth := fun _ _ => none }
theorem T2_ct22 : T2.ct 22 = some badnC := rfl
theorem T2_ct23 : T2.ct 23 = some powerC := rfl
theorem T2_ok : EnvOk Try.prog T2 := by
  refine ⟨fun f c h => ?_, fun f vf h => ?_, (fun _ _ _ h => by cases h), by kernel_rfl, (fun _ h => by cases h)⟩
  · simp only [T2] at h
    split at h
    · cases h; exact ⟨bad_ok, Try.f22, Try.func22, by kernel_rfl, by kernel_rfl⟩
    · cases h; exact ⟨power_ok, Try.f23, Try.func23, by kernel_rfl, by kernel_rfl⟩
    · cases h
  · cases h
theorem ans_ni {k : SV → List HO → Prop} {al : Bool} {hp : List HO} {z : Bool} {κ : IntKind} {b : Int} {a : Nat} (h : k (.tup [natS z a, .int κ b]) []) : answers al k (.tup [.vs true z (nl a) 1 (fun k => [.int .u32 (dig a k)]), .int κ b]) hp :=
  ans_le h (le_self (.tup [natS z a, .int κ b]) ⟨trivial, trivial, trivial⟩) (fun _ => by simp [natS, freshS, freshL])
theorem npow_ok : npowC.ok Try.prog 10 := by
  refine contract Try.func10 v10_is T2_ok 300 npowC fun args k h => ?_
  simp only [npowC] at h
  split at h
  · rename_i t1 z1 n sz get e'
    obtain ⟨a, e, ⟨⟨rfl, hn, ha, hg⟩, rfl, rfl, he2, hna, hfit⟩, h⟩ := h
    refine ⟨[.vs t1 z1 (nl a) 1 (fun k => [.int .u32 (dig a k)]), .int .i64 e], ⟨by simpa [le] using hg, ⟨rfl, rfl⟩, trivial⟩, ?_⟩
    (try dsimp only [v10, T2_ct22, T2_ct23, badnC, powerC, natS, go_sem, reduceIte])
    (try simp only [t_all, forall_const, ne_eq, implies_true, Nat.reduceAdd, Nat.reduceLeDiff, reduceCtorEq, Nat.reduceEqDiff])
    have h : k (.tup [natS false (a ^ e), .int .i64 0]) [] := h
    refine ⟨by decide, [(z1, a)], ⟨⟨rfl, rfl, fun k hk => match k, hk with | 0, _ => leXL_self _⟩, by simp, by simp; exact hna⟩, fun hb => by simp [hb], fun hb => ?_, fun hb => ⟨fun hb => absurd trivial hb, a, e, ⟨padP_nl (by omega), rfl, rfl, he2, hna, hfit⟩, by decide, by decide, ans_ni h⟩⟩
    exfalso; simp at hb; omega
  · exact h.1.elim
end Go.Proofs.Ytmgfmkbniaepcaa
set_option linter.all false
namespace Go.Proofs.Ytmgfmkbniaepcaa
open Go Go.Vx
set_option maxRecDepth 100000
set_option maxHeartbeats 4000000
def v12 : VF := { ntmps := 74, res := [.tmp 4, .tmp 5], body :=
 (.seq (.region [u1 4 .mov [.cn .nil],
 u1 5 .mov [.cn (.int .i64 0)]])
 (.seq (.region [u1 9 .mov [.tm 0],
 u1 10 (.buildSlice 1 1 [.nil] [(0, 1)]) [.tm 9],
 u1 11 (.call 22) [.tm 10],
 u1 6 .mov [.tm 11]])
 (.seq (.seq (.region [u1 12 .mov [.tm 6],
 u1 13 (.cmp .eql) [.tm 12, .cn (.int .i64 0)],
 u1 14 .mov [.tm 13],
 u2 15 14 true .mov [.tm 1],
 u2 16 14 true (.cmp .lss) [.tm 15, .cn (.int .i64 (-20000))],
 u2 17 14 true .mov [.tm 16],
 u2 18 17 false .mov [.tm 1],
 u2 19 17 false (.cmp .gtr) [.tm 18, .cn (.int .i64 20000)],
 u2 20 14 true .or [.tm 17, .tm 19],
 u1 21 .and [.tm 14, .tm 20]])
 (.cond (.tm 21) (.region [u1 6 .mov [.cn (.int .i64 2)]])
  .skip))
 (.seq (.seq (.region [u1 22 .mov [.tm 6],
 u1 23 (.cmp .eql) [.tm 22, .cn (.int .i64 0)],
 u1 24 .mov [.tm 23],
 u2 25 24 true .mov [.tm 0],
 u2 26 24 true .len [.tm 25],
 u2 27 24 true (.cmp .gtr) [.tm 26, .cn (.int .i64 0)],
 u1 28 .and [.tm 24, .tm 27],
 u1 29 .mov [.tm 28],
 u2 30 29 true .mov [.tm 0],
 u2 31 29 true (.call 25) [.tm 30],
 u2 32 29 true .mov [.tm 1],
 u2 33 29 true (.ari .add) [.tm 31, .tm 32],
 u2 34 29 true (.cmp .gtr) [.tm 33, .cn (.int .i64 16384)],
 u1 35 .and [.tm 29, .tm 34]])
 (.cond (.tm 35) (.region [u1 6 .mov [.cn (.int .i64 3)]])
  .skip))
 (.seq (.seq (.region [u1 36 .mov [.tm 6],
 u1 37 (.cmp .neq) [.tm 36, .cn (.int .i64 0)]])
 (.cond (.tm 37) (.seq (.region [u1 38 .mov [.tm 6],
 u1 4 .mov [.cn .nil],
 u1 5 .mov [.tm 38]])
 .ret)
  .skip))
 (.seq (.region [u1 39 (.make 1 4 [(.int .u32 0)]) [.cn (.int .i64 512), .cn (.int .i64 512)],
 u1 7 .mov [.tm 39]])
 (.seq (.seq (.region [u1 8 .mov [.cn (.int .i64 0)]])
 (.block 0 (.loop (.seq (.seq (.region [u1 40 .mov [.tm 8],
 u1 41 .mov [.tm 0],
 u1 42 (.call 25) [.tm 41],
 u1 43 (.cmp .lss) [.tm 40, .tm 42]])
 (.cond (.tm 43) .skip
  (.exit 0)))
 (.seq (.block 1 (.seq (.region [u1 46 .mov [.tm 8],
 u1 47 .mov [.tm 1],
 u1 48 (.ari .add) [.tm 46, .tm 47],
 u1 49 (.cmp .geq) [.tm 48, .cn (.int .i64 0)]])
 (.cond (.tm 49) (.draw [] [w1 50 .mov [.tm 7],
 w1 51 .mov [.tm 8],
 w1 52 .mov [.tm 1],
 w1 53 (.ari .add) [.tm 51, .tm 52],
 w1 54 .quo [.tm 53, .cn (.int .i64 32)],
 w1 55 .mov [.tm 7],
 w1 56 .mov [.tm 8],
 w1 57 .mov [.tm 1],
 w1 58 (.ari .add) [.tm 56, .tm 57],
 w1 59 .quo [.tm 58, .cn (.int .i64 32)],
 w1 60 (.idxAddr 1) [.tm 55, .tm 59],
 w1 61 (.load false 1) [.tm 60],
 w1 62 .mov [.tm 0],
 w1 63 .mov [.tm 8],
 w1 65 .mov [.tm 8],
 w1 66 .mov [.tm 1],
 w1 67 (.ari .add) [.tm 65, .tm 66],
 w1 68 .rem [.tm 67, .cn (.int .i64 32)],
 w1 64 (.call 26) [.tm 62, .tm 63],
 w1 69 .shl [.tm 64, .tm 68],
 w1 70 (.bit .or) [.tm 61, .tm 69],
 w1 71 (.idxAddr 1) [.tm 50, .tm 54],
 w0 (.store 1) [.tm 71, .tm 70]])
  .skip)))
 (.region [u1 44 .mov [.tm 8],
 u1 45 (.ari .add) [.tm 44, .cn (.int .i64 1)],
 u1 8 .mov [.tm 45]]))))))
 (.seq (.region [u1 72 .mov [.tm 7],
 u1 73 (.call 24) [.tm 72],
 u1 4 .mov [.tm 73],
 u1 5 .mov [.cn (.int .i64 0)]])
 .ret)))))))) }
theorem v12_is : vfunc Try.prog Try.f12 = some v12 := by kernel_rfl
def shiftC : Ctr := { alias := false, of := fun l => match l with
  | [.vs _ z n sz get, .int .i64 k] => .ex Nat fun a => .ex Nat fun i => .pre (padP a n sz get ∧ n = nl a ∧ nl a ≤ 512 ∧ k = (i : Int) ∧ bitsN a + i ≤ 16384) (.fin (.tup [natS false (a * 2 ^ i), .int .i64 0]) [])
  | _ => noC }
def T3 : Env := { ct := fun n => match n with | 22 => some badnC | 25 => some sizeC | 26 => some bitC | 24 => some trimC | _ => none, fn := fun _ => none, meth := fun _ _ => none }
theorem T3_ct22 : T3.ct 22 = some badnC := rfl
theorem T3_ct25 : T3.ct 25 = some sizeC := rfl
theorem T3_ct26 : T3.ct 26 = some bitC := rfl
theorem T3_ct24 : T3.ct 24 = some trimC := rfl
theorem T3_ok : EnvOk Try.prog T3 := by
  refine ⟨fun f c h => ?_, fun f vf h => ?_, (fun _ _ _ h => by cases h), by kernel_rfl, (fun _ h => by cases h)⟩
  · simp only [T3] at h
    split at h
    · cases h; exact ⟨bad_ok, Try.f22, Try.func22, by kernel_rfl, by kernel_rfl⟩
    · cases h; exact ⟨size_ok, Try.f25, Try.func25, by kernel_rfl, by kernel_rfl⟩
    · cases h; exact ⟨bit_ok, Try.f26, Try.func26, by kernel_rfl, by kernel_rfl⟩
    · cases h; exact ⟨trim_ok, Try.f24, Try.func24, by kernel_rfl, by kernel_rfl⟩
    · cases h
  · cases h
theorem setbit' {q i : Nat} (hb : bitN q i = 0) : dig q (i / 32) / 2 ^ (i % 32) % 2 = 0 ∧ setD q (i / 32) (dig q (i / 32) + 2 ^ (i % 32)) = q + 2 ^ i ∧ dig q (i / 32) + 2 ^ (i % 32) < 4294967296 := by
  have h1 : dig q (i / 32) / 2 ^ (i % 32) % 2 = 0 := by rw [← bitN_dig]; exact hb
  refine ⟨h1, ?_, ?_⟩
  · have e := setD_add q (i / 32) (dig q (i / 32) + 2 ^ (i % 32))
    have e2 : 2 ^ i = 2 ^ (i % 32) * 4294967296 ^ (i / 32) := by
      rw [pw_two, ← Nat.pow_add]; congr 1; omega
    rw [e2]
    rw [Nat.add_mul] at e
    omega
  · rw [← or_add h1]
    exact Nat.or_lt_two_pow (n := 32) (dig_lt _ _) (Nat.pow_lt_pow_right (by decide) (Nat.mod_lt _ (by decide)))
theorem mod_bit (a j : Nat) : a % 2 ^ (j + 1) = a % 2 ^ j + bitN a j * 2 ^ j := by
  unfold bitN
  rw [Nat.pow_succ, Nat.mod_mul, Nat.mul_comm (2 ^ j) (a / 2 ^ j % 2)]
theorem shift_bit {a i j : Nat} : bitN (a % 2 ^ j * 2 ^ i) (j + i) = 0 := by
  unfold bitN
  have h := Nat.mod_lt a (p2_pos j)
  have : a % 2 ^ j * 2 ^ i < 2 ^ (j + i) := by rw [Nat.pow_add]; exact Nat.mul_lt_mul_of_pos_right h (p2_pos i)
  rw [Nat.div_eq_of_lt this]
theorem shift_pad {a i n : Nat} (hn : n ≤ 100000) (h : bitsN a + i ≤ 32 * n) : padP (a * 2 ^ i) n 1 (fun k => [.int .u32 (dig (a * 2 ^ i) k)]) := by
  refine padP_self hn ?_
  rw [pw_two]
  exact Nat.lt_of_lt_of_le (Nat.mul_lt_mul_of_pos_right (bitsN_lt a) (p2_pos i)) (by rw [← Nat.pow_add]; exact Nat.pow_le_pow_right (by decide) h)
theorem orI {x y : Nat} (hx : x < 4294967296) (hy : y < 4294967296) : bitI .or .u32 (x : Int) (y : Int) = ((x ||| y : Nat) : Int) := or_nat hx hy
theorem shift_ok : shiftC.ok Try.prog 12 := by
  refine contract Try.func12 v12_is T3_ok 300 shiftC fun args k h => ?_
  simp only [shiftC] at h
  split at h
  · rename_i t1 z1 n sz get k'
    obtain ⟨a, i, ⟨⟨rfl, hn, ha, hg⟩, rfl, hn5, rfl, hbits⟩, h⟩ := h
    refine ⟨[.vs t1 z1 (nl a) 1 (fun k => [.int .u32 (dig a k)]), .int .i64 i], ⟨by simpa [le] using hg, ⟨rfl, rfl⟩, trivial⟩, ?_⟩
    (try dsimp only [v12, T3_ct22, T3_ct25, badnC, sizeC, natS, go_sem, reduceIte])
    (try simp only [t_all, forall_const, ne_eq, implies_true, Nat.reduceAdd, Nat.reduceLeDiff, reduceCtorEq, Nat.reduceEqDiff])
    have h : k (.tup [natS false (a * 2 ^ i), .int .i64 0]) [] := h
    have hbw : IntKind.i64.wrap ((bitsN a : Int) + (i : Int)) = ((bitsN a + i : Nat) : Int) := by rw [IntWalk.i64_in _ (by omega)]; omega
    refine ⟨by decide, [(z1, a)], ⟨⟨rfl, rfl, fun k hk => match k, hk with | 0, _ => leXL_self _⟩, by simp, by simp; exact hn5⟩, fun hb => by simp [hb], fun hb => ?_, fun hb => ⟨a, fun _ => ⟨padP_nl (by omega), rfl⟩, ?_⟩⟩
    · exfalso; simp at hb; omega
    · simp only [hbw]
      refine ⟨fun hb2 => ?_, fun hb2 => ?_⟩
      · exfalso; simp at hb2; omega
      · refine ⟨fun h => absurd trivial h, ⟨by decide, by decide, by decide, by unfold capOk; decide⟩, ?_⟩
        refine Loop.keep [0, 0, 5, 0] Nat (fun j => [(8, .int .i64 j)]) (fun j => [(1, .own false 1 512 (fun k => [.int .u32 (dig (a % 2 ^ j * 2 ^ i) k)]))]) [] (fun j => j ≤ bitsN a) (fun j => bitsN a - j) ?_ ?_
        · refine ⟨0, Nat.zero_le _, ?_⟩
          (try dsimp only [go_sem, reduceIte])
          simp only [fin_all, imp_self, implies_true, true_and, and_true]
          simp [Nat.mod_one, dig_zero, leL, le]
        · rintro j hj
          (try dsimp only [T3_ct25, T3_ct26, T3_ct24, sizeC, bitC, trimC, natS, Int.toNat_natCast, go_sem, reduceIte])
          (try simp only [t_all, forall_const, ne_eq, implies_true, Nat.reduceAdd, Nat.reduceLeDiff, reduceCtorEq, Nat.reduceEqDiff])
          have e0 : IntKind.i64.wrap ((j : Int) + (i : Int)) = ((j + i : Nat) : Int) := by rw [IntWalk.i64_in _ (by omega)]; omega
          have e1 : IntKind.i64.wrap (((j + i : Nat) : Int).tdiv 32) = (((j + i) / 32 : Nat) : Int) := by
            have : ((j + i : Nat) : Int).tdiv 32 = (((j + i) / 32 : Nat) : Int) := IntWalk.up_tdiv (y := 32) rfl rfl
            rw [this, IntWalk.i64_in _ (by omega)]
          have e2 : ((j + i : Nat) : Int).tmod 32 = (((j + i) % 32 : Nat) : Int) := IntWalk.up_tmod (y := 32) rfl rfl
          simp only [e0, e1, e2, Int.toNat_natCast, show Int.toNat 512 = 512 from rfl]
          have hbl := bitsN_nl a
          refine ⟨a, ⟨padP_nl (by omega), rfl⟩, fun hlt => ?_, fun hge => ?_⟩
          · refine ⟨fun _ => ⟨by decide, by decide, ⟨by omega, by omega⟩, by omega, by decide, a, ⟨padP_nl (by omega), by omega, by omega⟩, by omega, ⟨by omega, by omega⟩, by omega, j + 1, by omega, by omega, ?_⟩, fun hneg => by exfalso; omega⟩
            have hm32 : (j + i) % 32 < 32 := Nat.mod_lt _ (by decide)
            have e4 : min ((j + i) % 32) 32 = (j + i) % 32 := by omega
            rw [e4, IntWalk.i64_in ((j : Int) + 1) (by omega), mod_bit a j]
            have hq0 := shift_bit (a := a) (i := i) (j := j)
            obtain ⟨s1, s2, s3⟩ := setbit' hq0
            have hb2 := bitN_lt a j
            have hcell : ∀ K, (if K = (j + i) / 32 then [SV.int IntKind.u32 (bitI .or .u32 ↑(dig (a % 2 ^ j * 2 ^ i) ((j + i) / 32)) (IntKind.u32.wrap (↑(bitN a j) * 2 ^ ((j + i) % 32))))] else [SV.int IntKind.u32 ↑(dig (a % 2 ^ j * 2 ^ i) K)]) = [SV.int IntKind.u32 ↑(dig ((a % 2 ^ j + bitN a j * 2 ^ j) * 2 ^ i) K)] := by
              intro K
              rcases Nat.lt_or_ge (bitN a j) 1 with h0 | h0
              · have h0 : bitN a j = 0 := by omega
                rw [h0, show ((0 : Nat) : Int) * 2 ^ ((j + i) % 32) = ((0 : Nat) : Int) by simp, u3_nat (x := 0) (by decide), orI (dig_lt _ _) (by decide)]
                simp
                intro hh; rw [hh]
              · have h0 : bitN a j = 1 := by omega
                have e5 : ((1 : Nat) : Int) * 2 ^ ((j + i) % 32) = ((2 ^ ((j + i) % 32) : Nat) : Int) := by simp
                rw [h0, e5, u3_nat (x := 2 ^ ((j + i) % 32)) (Nat.pow_lt_pow_right (by decide) hm32), orI (dig_lt _ _) (Nat.pow_lt_pow_right (by decide) hm32), or_add s1]
                have e6 : (a % 2 ^ j + 1 * 2 ^ j) * 2 ^ i = a % 2 ^ j * 2 ^ i + 2 ^ (j + i) := by rw [Nat.one_mul, Nat.add_mul, Nat.pow_add]
                rw [e6, ← s2, dig_setD s3]
                split <;> rfl
            simp only [hcell, fin_all, imp_self, implies_true, true_and, and_true]
            omega
          · obtain rfl : j = bitsN a := by omega
            rw [Nat.mod_eq_of_lt (bitsN_lt a)]
            exact ⟨a * 2 ^ i, shift_pad (by decide) hbits, ans_ni h⟩
  · exact h.1.elim
end Go.Proofs.Ytmgfmkbniaepcaa
