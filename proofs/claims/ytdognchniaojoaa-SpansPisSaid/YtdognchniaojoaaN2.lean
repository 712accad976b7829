/- Numbers by limbs, in plain Lean: bits, doubling, division. -/
import Derived.Test.YtdognchniaojoaaN1
set_option linter.all false
namespace Go.Proofs.Ytdognchniaojoaa
open Go Go.Vx

/-- The number of bits. -/
def bitsF : Nat → Nat → Nat
  | 0, _ => 0
  | f + 1, a => if a = 0 then 0 else bitsF f (a / 2) + 1
def bitsN (a : Nat) : Nat := bitsF a a

theorem p2_pos (i : Nat) : 0 < 2 ^ i := Nat.pow_pos (by decide)
theorem bitsF_le : ∀ (f a n : Nat), a ≤ f → (bitsF f a ≤ n ↔ a < 2 ^ n)
  | 0, a, n, h => by
    have := p2_pos n
    simp only [bitsF]; omega
  | f + 1, a, n, h => by
    simp only [bitsF]
    split
    · rename_i h0; have := p2_pos n; subst h0; simp; omega
    · cases n with
      | zero => simp; omega
      | succ n =>
        have := bitsF_le f (a / 2) n (by omega)
        rw [Nat.pow_succ, ← Nat.div_lt_iff_lt_mul (by decide), ← this]
        omega
theorem bitsN_le {a n : Nat} : bitsN a ≤ n ↔ a < 2 ^ n := bitsF_le a a n (Nat.le_refl _)
theorem bitsN_lt (a : Nat) : a < 2 ^ bitsN a := bitsN_le.1 (Nat.le_refl _)
theorem bitsN_0 : bitsN 0 = 0 := rfl
theorem bitsN_half {a : Nat} (h : 0 < a) : bitsN a = bitsN (a / 2) + 1 := by
  have h1 : ∀ n, bitsN a ≤ n ↔ bitsN (a / 2) + 1 ≤ n := fun n => by
    cases n with
    | zero => have := @bitsN_le a 0; simp at this; omega
    | succ n => rw [bitsN_le, Nat.pow_succ, ← Nat.div_lt_iff_lt_mul (by decide), ← bitsN_le]; omega
  have a1 := (h1 (bitsN (a / 2) + 1)).2 (Nat.le_refl _)
  have a2 := (h1 (bitsN a)).1 (Nat.le_refl _)
  omega
theorem bitsN_eq0 {a : Nat} : bitsN a = 0 ↔ a = 0 := by
  have := @bitsN_le a 0
  simp at this; omega
theorem pw_two (m : Nat) : 4294967296 ^ m = 2 ^ (32 * m) := by
  rw [Nat.pow_mul]
theorem bitsN_top {a m : Nat} (h : nl a = m + 1) : bitsN a = 32 * m + bitsN (dig a m) := by
  have h1 := nl_lt a
  have h2 : ¬ a < 4294967296 ^ m := fun hh => by have := nl_le.2 hh; omega
  rw [h, pw_succ] at h1
  have h3 : a / 4294967296 ^ m < 4294967296 := by rw [Nat.div_lt_iff_lt_mul (pw_pos m), Nat.mul_comm]; exact h1
  have h4 : dig a m = a / 4294967296 ^ m := by unfold dig; rw [Nat.mod_eq_of_lt h3]
  have h5 : ∀ t, bitsN a ≤ 32 * m + t ↔ bitsN (dig a m) ≤ t := fun t => by
    rw [bitsN_le, bitsN_le, Nat.pow_add, ← pw_two, h4, Nat.div_lt_iff_lt_mul (pw_pos m), Nat.mul_comm]
  have h6 : 32 * m ≤ bitsN a := by
    rcases Nat.lt_or_ge (bitsN a) (32 * m) with h' | h'
    · exact absurd (by rw [pw_two]; exact bitsN_le.1 (Nat.le_of_lt h')) h2
    · exact h'
  have a1 := (h5 (bitsN (dig a m))).2 (Nat.le_refl _)
  have a2 := (h5 (bitsN a - 32 * m)).1 (by omega)
  omega
theorem bitsN_nl (a : Nat) : bitsN a ≤ 32 * nl a := by
  rw [bitsN_le, ← pw_two]; exact nl_lt a

/-- A bit. -/
def bitN (a i : Nat) : Nat := a / 2 ^ i % 2
theorem bitN_lt (a i : Nat) : bitN a i < 2 := Nat.mod_lt _ (by decide)
theorem mod_div_bit {y r : Nat} (h : r < 32) : y % 4294967296 / 2 ^ r % 2 = y / 2 ^ r % 2 := by
  have e : (4294967296 : Nat) = 2 ^ r * (2 * 2 ^ (31 - r)) := by
    have h1 : (2 : Nat) * 2 ^ (31 - r) = 2 ^ (32 - r) := by
      rw [Nat.mul_comm, ← Nat.pow_succ]; congr 1; omega
    rw [h1, ← Nat.pow_add, show r + (32 - r) = 32 by omega]
  rw [e, Nat.mod_mul_right_div_self, Nat.mod_mul_right_mod]
theorem bitN_dig (a i : Nat) : bitN a i = dig a (i / 32) / 2 ^ (i % 32) % 2 := by
  unfold bitN dig
  rw [mod_div_bit (Nat.mod_lt _ (by decide)), pw_two, Nat.div_div_eq_div_mul, ← Nat.pow_add]
  congr 3; omega
theorem half_bit (a i : Nat) : a / 2 ^ i = 2 * (a / 2 ^ (i + 1)) + bitN a i := by
  unfold bitN
  rw [Nat.pow_succ, ← Nat.div_div_eq_div_mul]
  generalize a / 2 ^ i = y
  omega

/-! ### Doubling -/

theorem dig_mod_if (a j k : Nat) : dig (a % 4294967296 ^ j) k = if k < j then dig a k else 0 := by
  split
  · exact dig_mod ‹_›
  · exact dig_big (Nat.mod_lt _ (pw_pos j)) (by omega)
/-- What is carried when a number is doubled. -/
def dcy (a x i : Nat) : Nat := (2 * (a % 4294967296 ^ i) + x) / 4294967296 ^ i
theorem dcy_0 (a x : Nat) : dcy a x 0 = x := by simp [dcy, Nat.mod_one]
theorem dcy_le {a x i : Nat} (hx : x ≤ 1) : dcy a x i ≤ 1 := by
  unfold dcy
  have h1 := Nat.mod_lt a (pw_pos i)
  have : (2 * (a % 4294967296 ^ i) + x) / 4294967296 ^ i < 2 := by
    rw [Nat.div_lt_iff_lt_mul (pw_pos i)]; omega
  omega
theorem dbl_dig (a x i : Nat) : (2 * dig a i + dcy a x i) % 4294967296 = dig (2 * a + x) i := by
  have e : (2 * a + x) / 4294967296 ^ i = 2 * (a / 4294967296 ^ i) + dcy a x i := by
    unfold dcy
    have h1 := Nat.div_add_mod a (4294967296 ^ i)
    generalize hP : 4294967296 ^ i = P at *
    have hp : 0 < P := hP ▸ pw_pos i
    have e : 2 * a + x = P * (2 * (a / P)) + (2 * (a % P) + x) := by rw [← Nat.mul_assoc, Nat.mul_comm P 2, Nat.mul_assoc]; omega
    conv => lhs; rw [e]
    rw [Nat.mul_add_div hp]
  unfold dig
  rw [e]
  omega
theorem dbl_cy (a x i : Nat) : (2 * dig a i + dcy a x i) / 4294967296 = dcy a x (i + 1) := by
  have e : dcy a x (i + 1) = (2 * (a % 4294967296 ^ (i + 1)) + x) / 4294967296 ^ (i + 1) := rfl
  rw [e, mod_pw, pw_succ, ← Nat.div_div_eq_div_mul]
  unfold dcy
  generalize hP : 4294967296 ^ i = P at *
  have hp : 0 < P := hP ▸ pw_pos i
  have e : 2 * (a % P + P * dig a i) + x = P * (2 * dig a i) + (2 * (a % P) + x) := by rw [Nat.mul_add, ← Nat.mul_assoc, Nat.mul_comm 2 P, Nat.mul_assoc]; omega
  rw [e, Nat.mul_add_div hp]
theorem dcy_top {a x n : Nat} (h : a < 4294967296 ^ n) : dcy a x n = dig (2 * a + x) n ∨ 1 < x := by
  rcases Nat.lt_or_ge 1 x with hx | hx
  · exact .inr hx
  · left
    have h1 := dbl_dig a x n
    rw [dig_big h (Nat.le_refl _)] at h1
    have := dcy_le (a := a) (i := n) hx
    omega

/-! ### Bits of words, as the model computes them -/

theorem and_one (x : Nat) : IntKind.u32.wrap ((BitVec.ofInt 32 (x : Int) &&& BitVec.ofInt 32 1).toNat : Int) = ((x % 2 : Nat) : Int) := by
  have e : (BitVec.ofInt 32 (x : Int) &&& BitVec.ofInt 32 1).toNat = x % 2 := by
    rw [BitVec.toNat_and]
    have h1 : (BitVec.ofInt 32 (x : Int)).toNat = x % 4294967296 := by simp [BitVec.toNat_ofInt] <;> omega
    have h2 : (BitVec.ofInt 32 1).toNat = 1 := by decide
    rw [h1, h2, Nat.and_one_is_mod] <;> omega
  rw [e]; exact u3_nat (by omega)
theorem ofInt_nat {x : Nat} (h : x < 4294967296) : (BitVec.ofInt 32 (x : Int)).toNat = x := by
  simp [BitVec.toNat_ofInt]; omega
theorem or_nat {x y : Nat} (hx : x < 4294967296) (hy : y < 4294967296) : IntKind.u32.wrap ((BitVec.ofInt 32 (x : Int) ||| BitVec.ofInt 32 (y : Int)).toNat : Int) = ((x ||| y : Nat) : Int) := by
  rw [BitVec.toNat_or, ofInt_nat hx, ofInt_nat hy]
  exact u3_nat (Nat.or_lt_two_pow (n := 32) hx hy)
/-- A bit that is not there is added. -/
theorem or_add {d s : Nat} (h : d / 2 ^ s % 2 = 0) : d ||| 2 ^ s = d + 2 ^ s := by
  have h1 := Nat.div_add_mod d (2 ^ s)
  have h2 := Nat.mod_lt d (p2_pos s)
  have e : d = 2 ^ s * (d / 2 ^ s) + d % 2 ^ s := h1.symm
  apply Nat.eq_of_testBit_eq
  intro j
  rw [Nat.testBit_or, Nat.testBit_two_pow]
  by_cases hj : s = j
  · subst hj
    have : (d + 2 ^ s).testBit s = !d.testBit s := by
      rw [Nat.add_comm]; exact Nat.testBit_two_pow_add_eq d s
    have hb : d.testBit s = false := by
      rw [Nat.testBit_eq_decide_div_mod_eq]; simp [h]
    rw [this, hb]; simp
  · have : (d + 2 ^ s).testBit j = d.testBit j := by
      rcases Nat.lt_or_ge j s with hlt | hge
      · rw [Nat.add_comm]; exact Nat.testBit_two_pow_add_gt hlt d
      · have hgt : s < j := by omega
        rw [Nat.testBit_eq_decide_div_mod_eq, Nat.testBit_eq_decide_div_mod_eq]
        have : (d + 2 ^ s) / 2 ^ j = d / 2 ^ j := by
          obtain ⟨m, rfl⟩ : ∃ m, j = s + 1 + m := ⟨j - (s + 1), by omega⟩
          rw [Nat.pow_add, ← Nat.div_div_eq_div_mul, ← Nat.div_div_eq_div_mul, Nat.pow_succ, ← Nat.div_div_eq_div_mul, ← Nat.div_div_eq_div_mul, Nat.add_div_right _ (p2_pos s)]
          congr 1; omega
        rw [this]
    rw [this]; simp [hj]

theorem dbl_or {d c : Nat} (hd : d < 4294967296) (hc : c ≤ 1) : IntKind.u32.wrap ((BitVec.ofInt 32 (IntKind.u32.wrap ((d : Int) * 2 ^ min (Int.toNat 1) 32)) ||| BitVec.ofInt 32 (c : Int)).toNat : Int) = (((2 * d + c) % 4294967296 : Nat) : Int) := by
  have e : IntKind.u32.wrap ((d : Int) * 2 ^ min (Int.toNat 1) 32) = ((2 * d % 4294967296 : Nat) : Int) := by
    have : (2 : Int) ^ min (Int.toNat 1) 32 = 2 := by decide
    rw [this, IntKind.wrap_u32]; omega
  rw [e, or_nat (by omega) (by omega)]
  rcases Nat.eq_zero_or_pos c with h0 | h0
  · subst h0; simp
  · obtain rfl : c = 1 := by omega
    have h2 : (2 * d % 4294967296) ||| 2 ^ 0 = 2 * d % 4294967296 + 2 ^ 0 := or_add (by omega)
    rw [Nat.pow_zero] at h2
    rw [h2]; omega
theorem dbl_shr {d : Nat} : (d : Int).fdiv (2 ^ min (Int.toNat 31) 32) = ((d / 2147483648 : Nat) : Int) := by
  have : (2 : Int) ^ min (Int.toNat 31) 32 = 2147483648 := by decide
  rw [this, Int.fdiv_eq_ediv_of_nonneg _ (by decide)]; omega

/-! ### A step of a division -/

theorem setbit {q i : Nat} (h : q % 2 ^ (i + 1) = 0) : dig q (i / 32) / 2 ^ (i % 32) % 2 = 0 ∧ setD q (i / 32) (dig q (i / 32) + 2 ^ (i % 32)) = q + 2 ^ i ∧ dig q (i / 32) + 2 ^ (i % 32) < 4294967296 := by
  have hb : bitN q i = 0 := by
    unfold bitN
    have := Nat.mod_mul_right_div_self q (2 ^ i) 2
    rw [← Nat.pow_succ, h, Nat.zero_div] at this
    exact this.symm
  have h1 : dig q (i / 32) / 2 ^ (i % 32) % 2 = 0 := by rw [← bitN_dig]; exact hb
  refine ⟨h1, ?_, ?_⟩
  · have e := setD_add q (i / 32) (dig q (i / 32) + 2 ^ (i % 32))
    have e2 : 2 ^ i = 2 ^ (i % 32) * 4294967296 ^ (i / 32) := by
      rw [pw_two, ← Nat.pow_add]; congr 1; omega
    rw [e2]
    rw [Nat.add_mul] at e
    omega
  · rw [← or_add h1]
    exact Nat.or_lt_two_pow (n := 32) (dig_lt _ _) (Nat.pow_lt_pow_right (by decide) (Nat.mod_lt _ (by decide)))
theorem mod_half {q i : Nat} (h : q % 2 ^ (i + 1) = 0) : q % 2 ^ i = 0 ∧ q / 2 ^ i = 2 * (q / 2 ^ (i + 1)) := by
  have hm : 2 ^ (i + 1) = 2 ^ i * 2 := Nat.pow_succ ..
  obtain ⟨c, hc⟩ := Nat.dvd_of_mod_eq_zero h
  subst hc
  constructor
  · rw [hm, Nat.mul_assoc]; exact Nat.mul_mod_right _ _
  · rw [Nat.mul_div_cancel_left _ (p2_pos _), hm, Nat.mul_assoc, Nat.mul_div_cancel_left _ (p2_pos i)]
theorem div_step0 {a b q r i : Nat} (h : a / 2 ^ (i + 1) = q / 2 ^ (i + 1) * b + r) (hq : q % 2 ^ (i + 1) = 0) : a / 2 ^ i = q / 2 ^ i * b + (2 * r + bitN a i) := by
  rw [half_bit, h, (mod_half hq).2]
  grind
theorem div_step1 {a b q r i : Nat} (h : a / 2 ^ (i + 1) = q / 2 ^ (i + 1) * b + r) (hq : q % 2 ^ (i + 1) = 0) (hb : b ≤ 2 * r + bitN a i) : a / 2 ^ i = (q + 2 ^ i) / 2 ^ i * b + (2 * r + bitN a i - b) ∧ (q + 2 ^ i) % 2 ^ i = 0 := by
  rw [Nat.add_div_right _ (p2_pos i), Nat.add_mod_right]
  refine ⟨?_, (mod_half hq).1⟩
  have := div_step0 h hq
  rw [Nat.succ_mul]
  omega
theorem div_bound {a b q r i n : Nat} (h : a / 2 ^ i = q / 2 ^ i * b + r) (hq : q % 2 ^ i = 0) (hb : 0 < b) (ha : a < n) : q < n := by
  have h1 : q / 2 ^ i ≤ a / 2 ^ i := by
    rw [h]
    calc q / 2 ^ i = q / 2 ^ i * 1 := (Nat.mul_one _).symm
      _ ≤ q / 2 ^ i * b := Nat.mul_le_mul_left _ hb
      _ ≤ _ := Nat.le_add_right _ _
  have h2 := Nat.div_add_mod q (2 ^ i)
  have h3 := Nat.div_add_mod a (2 ^ i)
  have h4 := Nat.mul_le_mul_left (2 ^ i) h1
  omega
theorem div_end {a b q r : Nat} (h : a / 2 ^ 0 = q / 2 ^ 0 * b + r) (hr : r < b) : q = a / b ∧ r = a % b := by
  simp only [Nat.pow_zero, Nat.div_one] at h
  have hb : 0 < b := by omega
  subst h
  rw [Nat.mul_comm, Nat.mul_add_div hb, Nat.mul_add_mod, Nat.div_eq_of_lt hr, Nat.mod_eq_of_lt hr]
  exact ⟨by omega, rfl⟩
end Go.Proofs.Ytdognchniaojoaa
