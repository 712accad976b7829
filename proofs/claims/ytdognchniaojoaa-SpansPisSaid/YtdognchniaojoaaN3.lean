/- Fractions, in plain Lean: a pair (n, d), d above 0, told by its lowest terms. -/
import Derived.Test.YtdognchniaojoaaN2
set_option linter.all false
namespace Go.Proofs.Ytdognchniaojoaa
open Go Go.Vx

def fg (n : Int) (d : Nat) : Nat := Nat.gcd n.natAbs d
def rnum (n : Int) (d : Nat) : Nat := n.natAbs / fg n d
def rden (n : Int) (d : Nat) : Nat := d / fg n d
def nsg (neg : Bool) (a : Nat) : Int := if neg then -(a : Int) else a

theorem fg_pos {n : Int} {d : Nat} (hd : 0 < d) : 0 < fg n d := Nat.gcd_pos_of_pos_right _ hd
theorem rnum_mul (n : Int) (d : Nat) : rnum n d * fg n d = n.natAbs := Nat.div_mul_cancel (Nat.gcd_dvd_left _ _)
theorem rden_mul (n : Int) (d : Nat) : rden n d * fg n d = d := Nat.div_mul_cancel (Nat.gcd_dvd_right _ _)
theorem rden_pos {n : Int} {d : Nat} (hd : 0 < d) : 0 < rden n d := by
  have := rden_mul n d
  rcases Nat.eq_zero_or_pos (rden n d) with h | h
  · rw [h] at this; omega
  · exact h
theorem rnum_le (n : Int) (d : Nat) : rnum n d ≤ n.natAbs := Nat.div_le_self _ _
theorem rden_le (n : Int) (d : Nat) : rden n d ≤ d := Nat.div_le_self _ _
theorem r_coprime {n : Int} {d : Nat} (hd : 0 < d) : Nat.gcd (rnum n d) (rden n d) = 1 := by
  unfold rnum rden
  exact Nat.gcd_div_gcd_div_gcd_of_pos_right hd
theorem rnum_0 {n : Int} {d : Nat} (hd : 0 < d) : rnum n d = 0 ↔ n = 0 := by
  have := rnum_mul n d
  constructor
  · intro h; rw [h] at this; omega
  · rintro rfl; simp [rnum]
theorem rden_0 {d : Nat} (hd : 0 < d) : rden 0 d = 1 := by simp [rden, fg, Nat.div_self hd]
theorem n_eq (n : Int) (d : Nat) : n = nsg (decide (n < 0)) (rnum n d) * (fg n d : Int) := by
  have h := rnum_mul n d
  unfold nsg
  have h2 : ((rnum n d : Nat) : Int) * (fg n d : Int) = (n.natAbs : Int) := by exact_mod_cast h
  by_cases hn : n < 0
  · simp only [hn, decide_true, if_true]
    rw [Int.neg_mul, h2]; omega
  · simp only [hn, decide_false, Bool.false_eq_true, if_false]
    rw [h2]; omega
theorem d_eq (n : Int) (d : Nat) : (d : Int) = (rden n d : Int) * (fg n d : Int) := by exact_mod_cast (rden_mul n d).symm

/-- A fraction's terms do not tell by what it was widened. -/
theorem r_scale {n : Int} {d k : Nat} (hk : 0 < k) : rnum (n * k) (d * k) = rnum n d ∧ rden (n * k) (d * k) = rden n d ∧ (decide (n * (k : Int) < 0)) = decide (n < 0) := by
  have e : (n * (k : Int)).natAbs = n.natAbs * k := by rw [Int.natAbs_mul]; simp
  have g : fg (n * k) (d * k) = fg n d * k := by unfold fg; rw [e, Nat.gcd_mul_right]
  refine ⟨?_, ?_, ?_⟩
  · unfold rnum; rw [e, g, Nat.mul_div_mul_right _ _ hk]
  · unfold rden; rw [g, Nat.mul_div_mul_right _ _ hk]
  · congr 1
    apply propext
    constructor
    · intro h
      rcases Int.lt_or_le n 0 with h' | h'
      · exact h'
      · have := Int.mul_nonneg h' (Int.natCast_nonneg k); omega
    · intro h
      exact Int.mul_neg_of_neg_of_pos h (by omega)
theorem nsg_abs (neg : Bool) (a : Nat) : (nsg neg a).natAbs = a := by
  unfold nsg; split <;> omega
theorem nsg_neg (neg : Bool) (a : Nat) : decide (nsg neg a < 0) = (neg && decide (0 < a)) := by
  unfold nsg
  cases neg <;> simp <;> omega
theorem nsg_self (n : Int) : nsg (decide (n < 0)) n.natAbs = n := by
  unfold nsg
  by_cases h : n < 0
  · simp [h]; omega
  · simp [h]; omega

/-! ### Operations -/

theorem q_mul {n1 n2 : Int} {d1 d2 : Nat} (h1 : 0 < d1) (h2 : 0 < d2) {m : Int} (hm : m = nsg (!(decide (n1 < 0) == decide (n2 < 0))) (rnum n1 d1 * rnum n2 d2)) :
    rnum m (rden n1 d1 * rden n2 d2) = rnum (n1 * n2) (d1 * d2) ∧ rden m (rden n1 d1 * rden n2 d2) = rden (n1 * n2) (d1 * d2) ∧ decide (m < 0) = decide (n1 * n2 < 0) := by
  have hk : 0 < fg n1 d1 * fg n2 d2 := Nat.mul_pos (fg_pos h1) (fg_pos h2)
  have en : n1 * n2 = m * ((fg n1 d1 * fg n2 d2 : Nat) : Int) := by
    have a1 := n_eq n1 d1
    have a2 := n_eq n2 d2
    rw [hm]
    conv => lhs; rw [a1, a2]
    generalize rnum n1 d1 = x
    generalize rnum n2 d2 = y
    generalize fg n1 d1 = g
    generalize fg n2 d2 = h
    unfold nsg
    cases decide (n1 < 0) <;> cases decide (n2 < 0) <;> simp <;> grind
  have ed : d1 * d2 = rden n1 d1 * rden n2 d2 * (fg n1 d1 * fg n2 d2) := by
    have a1 := rden_mul n1 d1
    have a2 := rden_mul n2 d2
    conv => lhs; rw [← a1, ← a2]
    grind
  have := @r_scale m (rden n1 d1 * rden n2 d2) _ hk
  rw [← en, ← ed] at this
  exact ⟨this.1.symm, this.2.1.symm, this.2.2.symm⟩

theorem q_div {n1 n2 : Int} {d1 d2 : Nat} (h1 : 0 < d1) (h2 : 0 < d2) (hn : n2 ≠ 0) {m : Int} (hm : m = nsg (!(decide (n1 < 0) == decide (n2 < 0))) (rnum n1 d1 * rden n2 d2)) :
    rnum m (rden n1 d1 * rnum n2 d2) = rnum (nsg (decide (n2 < 0)) 1 * n1 * d2) (d1 * n2.natAbs) ∧ rden m (rden n1 d1 * rnum n2 d2) = rden (nsg (decide (n2 < 0)) 1 * n1 * d2) (d1 * n2.natAbs) ∧ decide (m < 0) = decide (nsg (decide (n2 < 0)) 1 * n1 * d2 < 0) := by
  have hk : 0 < fg n1 d1 * fg n2 d2 := Nat.mul_pos (fg_pos h1) (fg_pos h2)
  have en : nsg (decide (n2 < 0)) 1 * n1 * d2 = m * ((fg n1 d1 * fg n2 d2 : Nat) : Int) := by
    have a1 := n_eq n1 d1
    have a2 := d_eq n2 d2
    rw [hm, a2]
    conv => lhs; rw [a1]
    generalize rnum n1 d1 = x
    generalize rden n2 d2 = y
    generalize fg n1 d1 = g
    generalize fg n2 d2 = h
    unfold nsg
    cases decide (n1 < 0) <;> cases decide (n2 < 0) <;> simp <;> grind
  have ed : d1 * n2.natAbs = rden n1 d1 * rnum n2 d2 * (fg n1 d1 * fg n2 d2) := by
    have a1 := rden_mul n1 d1
    have a2 := rnum_mul n2 d2
    rw [← a2]
    conv => lhs; rw [← a1]
    grind
  have := @r_scale m (rden n1 d1 * rnum n2 d2) _ hk
  rw [← en, ← ed] at this
  exact ⟨this.1.symm, this.2.1.symm, this.2.2.symm⟩

/-- The sum of two signed numbers, as it is computed. -/
def addM (s t : Bool) (x y : Nat) : Int := if s = t then nsg s (x + y) else if y ≤ x then nsg s (x - y) else nsg t (y - x)
theorem addM_eq (s t : Bool) (x y : Nat) : addM s t x y = nsg s x + nsg t y := by
  unfold addM nsg
  cases s <;> cases t <;> simp <;> (try split) <;> omega

theorem q_add {n1 n2 : Int} {d1 d2 : Nat} (h1 : 0 < d1) (h2 : 0 < d2) {m : Int} (hm : m = addM (decide (n1 < 0)) (decide (n2 < 0)) (rnum n1 d1 * rden n2 d2) (rnum n2 d2 * rden n1 d1)) :
    rnum m (rden n1 d1 * rden n2 d2) = rnum (n1 * d2 + n2 * d1) (d1 * d2) ∧ rden m (rden n1 d1 * rden n2 d2) = rden (n1 * d2 + n2 * d1) (d1 * d2) ∧ decide (m < 0) = decide (n1 * d2 + n2 * d1 < 0) := by
  have hk : 0 < fg n1 d1 * fg n2 d2 := Nat.mul_pos (fg_pos h1) (fg_pos h2)
  have en : n1 * d2 + n2 * d1 = m * ((fg n1 d1 * fg n2 d2 : Nat) : Int) := by
    have a1 := n_eq n1 d1
    have a2 := n_eq n2 d2
    have a3 := d_eq n1 d1
    have a4 := d_eq n2 d2
    rw [hm, addM_eq]
    suffices key : ∀ N1 N2 D1 D2 : Int, N1 = nsg (decide (n1 < 0)) (rnum n1 d1) * (fg n1 d1 : Int) → N2 = nsg (decide (n2 < 0)) (rnum n2 d2) * (fg n2 d2 : Int) → D1 = (rden n1 d1 : Int) * (fg n1 d1 : Int) → D2 = (rden n2 d2 : Int) * (fg n2 d2 : Int) →
        N1 * D2 + N2 * D1 = (nsg (decide (n1 < 0)) (rnum n1 d1 * rden n2 d2) + nsg (decide (n2 < 0)) (rnum n2 d2 * rden n1 d1)) * ((fg n1 d1 * fg n2 d2 : Nat) : Int) from key _ _ _ _ a1 a2 a3 a4
    clear a1 a2 a3 a4 hm hk
    rintro _ _ _ _ rfl rfl rfl rfl
    generalize rnum n1 d1 = x
    generalize rnum n2 d2 = y
    generalize rden n1 d1 = z
    generalize rden n2 d2 = w
    generalize fg n1 d1 = g
    generalize fg n2 d2 = h
    unfold nsg
    cases decide (n1 < 0) <;> cases decide (n2 < 0) <;> simp <;> grind
  have ed : d1 * d2 = rden n1 d1 * rden n2 d2 * (fg n1 d1 * fg n2 d2) := by
    have a1 := rden_mul n1 d1
    have a2 := rden_mul n2 d2
    conv => lhs; rw [← a1, ← a2]
    grind
  have := @r_scale m (rden n1 d1 * rden n2 d2) _ hk
  rw [← en, ← ed] at this
  exact ⟨this.1.symm, this.2.1.symm, this.2.2.symm⟩

/-- Comparison. -/
def cmpI (x y : Int) : Int := if x < y then -1 else if y < x then 1 else 0
def cmpQ (n1 : Int) (d1 : Nat) (n2 : Int) (d2 : Nat) : Int := cmpI (n1 * d2) (n2 * d1)
theorem mul_lt_iff {x y : Int} {k : Nat} (hk : 0 < k) : x * (k : Int) < y * (k : Int) ↔ x < y := by
  constructor
  · intro h
    rcases Int.lt_or_le x y with h' | h'
    · exact h'
    · have := Int.mul_le_mul_of_nonneg_right h' (Int.natCast_nonneg k); omega
  · intro h; exact Int.mul_lt_mul_of_pos_right h (by omega)
theorem q_cmp {n1 n2 : Int} {d1 d2 : Nat} (h1 : 0 < d1) (h2 : 0 < d2) : cmpQ n1 d1 n2 d2 = if n1 < 0 ∧ n2 < 0 then -(ordN (rnum n1 d1 * rden n2 d2) (rnum n2 d2 * rden n1 d1)) else if n1 < 0 then -1 else if n2 < 0 then 1 else ordN (rnum n1 d1 * rden n2 d2) (rnum n2 d2 * rden n1 d1) := by
  have hk : 0 < fg n1 d1 * fg n2 d2 := Nat.mul_pos (fg_pos h1) (fg_pos h2)
  have e1 : n1 * d2 = nsg (decide (n1 < 0)) (rnum n1 d1 * rden n2 d2) * ((fg n1 d1 * fg n2 d2 : Nat) : Int) := by
    have a1 := n_eq n1 d1
    have a4 := d_eq n2 d2
    rw [a4]
    conv => lhs; rw [a1]
    unfold nsg
    cases decide (n1 < 0) <;> simp <;> grind
  have e2 : n2 * d1 = nsg (decide (n2 < 0)) (rnum n2 d2 * rden n1 d1) * ((fg n1 d1 * fg n2 d2 : Nat) : Int) := by
    have a1 := n_eq n2 d2
    have a4 := d_eq n1 d1
    rw [a4]
    conv => lhs; rw [a1]
    unfold nsg
    cases decide (n2 < 0) <;> simp <;> grind
  have p1 : n1 < 0 → 0 < rnum n1 d1 * rden n2 d2 := fun h => Nat.mul_pos (Nat.pos_of_ne_zero fun h0 => by have := (rnum_0 h1).1 h0; omega) (rden_pos h2)
  have p2 : n2 < 0 → 0 < rnum n2 d2 * rden n1 d1 := fun h => Nat.mul_pos (Nat.pos_of_ne_zero fun h0 => by have := (rnum_0 h2).1 h0; omega) (rden_pos h1)
  unfold cmpQ cmpI
  rw [e1, e2]
  simp only [mul_lt_iff hk]
  generalize rnum n1 d1 * rden n2 d2 = x at *
  generalize rnum n2 d2 * rden n1 d1 = y at *
  unfold nsg ordN
  by_cases g1 : n1 < 0 <;> by_cases g2 : n2 < 0 <;> simp only [g1, g2, decide_true, decide_false, if_true, if_false, and_self, and_true, and_false, Bool.false_eq_true]
  · have := p1 g1; have := p2 g2
    repeat' split
    all_goals omega
  · have := p1 g1
    repeat' split
    all_goals omega
  · have := p2 g2
    repeat' split
    all_goals omega
  · repeat' split
    all_goals omega

/-- The whole number below a fraction, as it is computed. -/
def floorN (neg : Bool) (a b : Nat) : Nat := if neg && decide (a % b ≠ 0) then a / b + 1 else a / b
theorem q_floor {n : Int} {d : Nat} (hd : 0 < d) : n / (d : Int) = nsg (decide (n < 0)) (floorN (decide (n < 0)) (rnum n d) (rden n d)) := by
  have hg : 0 < fg n d := fg_pos hd
  have e : n / (d : Int) = nsg (decide (n < 0)) (rnum n d) / (rden n d : Int) := by
    have a1 := n_eq n d
    have a2 := d_eq n d
    suffices key : ∀ N D : Int, N = nsg (decide (n < 0)) (rnum n d) * (fg n d : Int) → D = (rden n d : Int) * (fg n d : Int) → N / D = nsg (decide (n < 0)) (rnum n d) / (rden n d : Int) from key _ _ a1 a2
    rintro _ _ rfl rfl
    exact Int.mul_ediv_mul_of_pos_left _ _ (show (0 : Int) < (fg n d : Int) by omega)
  rw [e]
  have hp := rden_pos (n := n) hd
  generalize rnum n d = a
  generalize rden n d = b at *
  have h1 := Nat.div_add_mod a b
  have h2 := Nat.mod_lt a hp
  unfold nsg floorN
  by_cases hn : n < 0
  · simp only [hn, decide_true, if_true, Bool.true_and, decide_eq_true_eq]
    by_cases h0 : a % b = 0
    · rw [if_neg (by omega)]
      have : (a : Int) = (a / b : Nat) * (b : Int) := by
        have : a = a / b * b := by rw [Nat.mul_comm]; omega
        exact_mod_cast this
      conv => lhs; rw [this, ← Int.neg_mul]
      rw [Int.mul_ediv_cancel _ (by omega)]
    · rw [if_pos (by omega)]
      apply Int.le_antisymm
      · apply Int.le_of_lt_add_one
        rw [Int.ediv_lt_iff_lt_mul (by omega)]
        have : (a : Int) = (b : Int) * (a / b : Nat) + (a % b : Nat) := by exact_mod_cast h1.symm
        rw [this]
        have hm : ((a % b : Nat) : Int) > 0 := by omega
        generalize (a % b) = m at *
        generalize (a / b) = q at *
        push_cast
        grind
      · rw [Int.le_ediv_iff_mul_le (by omega)]
        have : (a : Int) = (b : Int) * (a / b : Nat) + (a % b : Nat) := by exact_mod_cast h1.symm
        rw [this]
        have hm : ((a % b : Nat) : Int) < b := by omega
        generalize (a % b) = m at *
        generalize (a / b) = q at *
        push_cast
        grind
  · simp only [hn, decide_false, Bool.false_and, Bool.false_eq_true, if_false]
    exact_mod_cast rfl
end Go.Proofs.Ytdognchniaojoaa
