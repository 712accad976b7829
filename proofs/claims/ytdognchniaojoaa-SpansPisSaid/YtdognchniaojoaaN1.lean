/- Numbers by limbs of 32 bits, in plain Lean: digits, lengths, sums, differences, products. -/
import Derived.Test.YtdognchniaojoaaCo
set_option linter.all false
namespace Go.Proofs.Ytdognchniaojoaa
open Go Go.Vx

/-- The limb at a place. -/
def dig (a i : Nat) : Nat := a / 4294967296 ^ i % 4294967296

theorem pw_pos (i : Nat) : 0 < 4294967296 ^ i := Nat.pow_pos (by decide)
theorem pw_succ (i : Nat) : 4294967296 ^ (i + 1) = 4294967296 ^ i * 4294967296 := Nat.pow_succ ..
theorem dig_lt (a i : Nat) : dig a i < 4294967296 := Nat.mod_lt _ (by decide)
theorem mod_pw (a i : Nat) : a % 4294967296 ^ (i + 1) = a % 4294967296 ^ i + 4294967296 ^ i * dig a i := Nat.mod_pow_succ
theorem dig_0 (a : Nat) : dig a 0 = a % 4294967296 := by simp [dig]
theorem dig_zero (i : Nat) : dig 0 i = 0 := by simp [dig]
theorem dig_succ (a i : Nat) : dig a (i + 1) = dig (a / 4294967296) i := by
  unfold dig
  rw [Nat.div_div_eq_div_mul, pw_succ, Nat.mul_comm]
theorem dig_big {a n i : Nat} (h : a < 4294967296 ^ n) (hi : n ≤ i) : dig a i = 0 := by
  unfold dig
  rw [Nat.div_eq_of_lt]
  exact Nat.lt_of_lt_of_le h (Nat.pow_le_pow_right (by decide) hi)
theorem mod_ext {a b : Nat} : ∀ {n : Nat}, (∀ i, i < n → dig a i = dig b i) → a % 4294967296 ^ n = b % 4294967296 ^ n
  | 0, _ => by simp [Nat.mod_one]
  | n + 1, h => by rw [mod_pw, mod_pw, mod_ext fun i hi => h i (by omega), h n (by omega)]
theorem dig_ext {a b n : Nat} (ha : a < 4294967296 ^ n) (hb : b < 4294967296 ^ n) (h : ∀ i, i < n → dig a i = dig b i) : a = b := by
  have := mod_ext h
  rwa [Nat.mod_eq_of_lt ha, Nat.mod_eq_of_lt hb] at this
theorem dig_mod {a j k : Nat} (h : k < j) : dig (a % 4294967296 ^ j) k = dig a k := by
  unfold dig
  obtain ⟨m, rfl⟩ : ∃ m, j = k + (m + 1) := ⟨j - k - 1, by omega⟩
  rw [Nat.pow_add, Nat.mod_mul_right_div_self, Nat.pow_succ, Nat.mul_comm, Nat.mod_mul_right_mod]

/-- The number of limbs. -/
def nlF : Nat → Nat → Nat
  | 0, _ => 0
  | f + 1, a => if a = 0 then 0 else nlF f (a / 4294967296) + 1
def nl (a : Nat) : Nat := nlF a a

theorem nlF_le : ∀ (f a n : Nat), a ≤ f → (nlF f a ≤ n ↔ a < 4294967296 ^ n)
  | 0, a, n, h => by
    have := pw_pos n
    simp only [nlF]; omega
  | f + 1, a, n, h => by
    simp only [nlF]
    split
    · rename_i h0; have := pw_pos n; subst h0; simp; omega
    · cases n with
      | zero => simp; omega
      | succ n =>
        have := nlF_le f (a / 4294967296) n (by omega)
        rw [pw_succ, ← Nat.div_lt_iff_lt_mul (by decide), ← this]
        omega
theorem nl_le {a n : Nat} : nl a ≤ n ↔ a < 4294967296 ^ n := nlF_le a a n (Nat.le_refl _)
theorem nl_lt (a : Nat) : a < 4294967296 ^ nl a := nl_le.1 (Nat.le_refl _)
theorem nl_0 : nl 0 = 0 := rfl
theorem nl_pos {a : Nat} : 0 < nl a ↔ 0 < a := by
  have := @nl_le a 0
  simp at this; omega
theorem nl_eq0 {a : Nat} : nl a = 0 ↔ a = 0 := by
  have := @nl_le a 0
  simp at this; omega
theorem nl_top {a : Nat} (h : a ≠ 0) : dig a (nl a - 1) ≠ 0 := by
  obtain ⟨n, hn⟩ : ∃ n, nl a = n + 1 := ⟨nl a - 1, by have := nl_eq0 (a := a); omega⟩
  rw [hn, Nat.add_sub_cancel]
  have h1 := nl_lt a
  have h2 : ¬ a < 4294967296 ^ n := fun hh => by have := nl_le.2 hh; omega
  rw [hn, pw_succ] at h1
  unfold dig
  have h3 : a / 4294967296 ^ n < 4294967296 := by rw [Nat.div_lt_iff_lt_mul (pw_pos n), Nat.mul_comm]; exact h1
  rw [Nat.mod_eq_of_lt h3]
  have := Nat.div_pos (Nat.le_of_not_lt h2) (pw_pos n)
  omega
theorem nl_mono {a b : Nat} (h : a ≤ b) : nl a ≤ nl b := nl_le.2 (Nat.lt_of_le_of_lt h (nl_lt b))

/-- Trimmed: limbs 0 at the end. -/
theorem nl_trim {a n : Nat} (h : a < 4294967296 ^ n) (ht : n = 0 ∨ dig a (n - 1) ≠ 0) : nl a = n := by
  have h1 := nl_le.2 h
  rcases ht with rfl | ht
  · omega
  · rcases Nat.lt_or_ge (nl a) n with h2 | h2
    · exact absurd (dig_big (nl_lt a) (by omega : nl a ≤ n - 1)) ht
    · omega
theorem lt_trim {a n : Nat} (h : a < 4294967296 ^ (n + 1)) (h0 : dig a n = 0) : a < 4294967296 ^ n := by
  have := mod_pw a n
  rw [h0, Nat.mod_eq_of_lt h] at this
  rw [this]
  simpa using Nat.mod_lt a (pw_pos n)

/-! ### Sums -/

/-- What is carried to a place. -/
def cy (a b i : Nat) : Nat := (a % 4294967296 ^ i + b % 4294967296 ^ i) / 4294967296 ^ i
theorem cy_0 (a b : Nat) : cy a b 0 = 0 := by simp [cy, Nat.mod_one]
theorem cy_le (a b i : Nat) : cy a b i ≤ 1 := by
  unfold cy
  have h1 := Nat.mod_lt a (pw_pos i)
  have h2 := Nat.mod_lt b (pw_pos i)
  have : (a % 4294967296 ^ i + b % 4294967296 ^ i) / 4294967296 ^ i < 2 := by
    rw [Nat.div_lt_iff_lt_mul (pw_pos i)]; omega
  omega
theorem div_pw (a b i : Nat) : (a + b) / 4294967296 ^ i = a / 4294967296 ^ i + b / 4294967296 ^ i + cy a b i := by
  unfold cy
  have h1 := Nat.div_add_mod a (4294967296 ^ i)
  have h2 := Nat.div_add_mod b (4294967296 ^ i)
  generalize hP : 4294967296 ^ i = P at *
  have hp : 0 < P := hP ▸ pw_pos i
  have e : a + b = P * (a / P + b / P) + (a % P + b % P) := by rw [Nat.mul_add]; omega
  conv => lhs; rw [e]
  rw [Nat.mul_add_div hp]
theorem add_dig (a b i : Nat) : (dig a i + dig b i + cy a b i) % 4294967296 = dig (a + b) i := by
  unfold dig
  rw [div_pw]
  omega
theorem add_cy (a b i : Nat) : (dig a i + dig b i + cy a b i) / 4294967296 = cy a b (i + 1) := by
  have e : cy a b (i + 1) = (a % 4294967296 ^ (i + 1) + b % 4294967296 ^ (i + 1)) / 4294967296 ^ (i + 1) := rfl
  rw [e, mod_pw, mod_pw, pw_succ, ← Nat.div_div_eq_div_mul]
  unfold cy
  generalize hP : 4294967296 ^ i = P at *
  have hp : 0 < P := hP ▸ pw_pos i
  have e : a % P + P * dig a i + (b % P + P * dig b i) = P * (dig a i + dig b i) + (a % P + b % P) := by rw [Nat.mul_add]; omega
  rw [e, Nat.mul_add_div hp]

/-! ### Differences: what is owed is what the sum carries -/

theorem sub_dig {a b : Nat} (h : b ≤ a) (i : Nat) : (4294967296 + dig a i - dig b i - cy b (a - b) i) % 4294967296 = dig (a - b) i ∧ 1 - (4294967296 + dig a i - dig b i - cy b (a - b) i) / 4294967296 = cy b (a - b) (i + 1)
    ∧ dig b i + cy b (a - b) i ≤ 4294967296 + dig a i ∧ 4294967296 + dig a i - dig b i - cy b (a - b) i < 8589934592 := by
  have e1 := add_dig b (a - b) i
  have e2 := add_cy b (a - b) i
  rw [show b + (a - b) = a by omega] at e1
  have h1 := dig_lt b i
  have h2 := dig_lt (a - b) i
  have h3 := cy_le b (a - b) i
  have h4 := cy_le b (a - b) (i + 1)
  omega

/-! ### A limb is written -/

def setD (V j x : Nat) : Nat := V - dig V j * 4294967296 ^ j + x * 4294967296 ^ j

theorem split_dig (V j : Nat) : V = 4294967296 ^ j * (4294967296 * (V / 4294967296 ^ (j + 1)) + dig V j) + V % 4294967296 ^ j := by
  have h1 := Nat.div_add_mod V (4294967296 ^ j)
  have h2 := Nat.div_add_mod (V / 4294967296 ^ j) 4294967296
  rw [Nat.div_div_eq_div_mul, ← pw_succ] at h2
  unfold dig
  rw [h2, h1]
theorem setD_eq (V j x : Nat) : setD V j x = 4294967296 ^ j * (4294967296 * (V / 4294967296 ^ (j + 1)) + x) + V % 4294967296 ^ j := by
  have := split_dig V j
  unfold setD
  generalize dig V j = d at *
  generalize V / 4294967296 ^ (j + 1) = h at *
  generalize V % 4294967296 ^ j = l at *
  generalize 4294967296 ^ j = P at *
  rw [Nat.mul_add] at this ⊢
  rw [Nat.mul_comm d, Nat.mul_comm x]
  omega
theorem setD_add (V j x : Nat) : setD V j x + dig V j * 4294967296 ^ j = V + x * 4294967296 ^ j := by
  have := split_dig V j
  rw [setD_eq]
  generalize dig V j = d at *
  generalize V / 4294967296 ^ (j + 1) = h at *
  generalize V % 4294967296 ^ j = l at *
  generalize 4294967296 ^ j = P at *
  rw [Nat.mul_add] at this ⊢
  rw [Nat.mul_comm d, Nat.mul_comm x]
  omega
theorem setD_div {V j x : Nat} (hx : x < 4294967296) : setD V j x / 4294967296 ^ (j + 1) = V / 4294967296 ^ (j + 1) := by
  have hl := Nat.mod_lt V (pw_pos j)
  have e : ∀ Y : Nat, Y / 4294967296 ^ (j + 1) = Y / 4294967296 ^ j / 4294967296 := fun Y => by rw [pw_succ, Nat.div_div_eq_div_mul]
  rw [setD_eq, e (4294967296 ^ j * (4294967296 * (V / 4294967296 ^ (j + 1)) + x) + V % 4294967296 ^ j), Nat.mul_add_div (pw_pos j), Nat.div_eq_of_lt hl]
  generalize V / 4294967296 ^ (j + 1) = h
  omega
theorem dig_setD {V j x : Nat} (hx : x < 4294967296) (k : Nat) : dig (setD V j x) k = if k = j then x else dig V k := by
  have hl := Nat.mod_lt V (pw_pos j)
  rcases Nat.lt_trichotomy k j with h | h | h
  · rw [if_neg (by omega), ← dig_mod h, ← dig_mod (a := V) h, setD_eq, Nat.mul_add_mod, Nat.mod_mod]
  · subst h
    rw [if_pos rfl, setD_eq]
    unfold dig
    rw [Nat.mul_add_div (pw_pos k), Nat.div_eq_of_lt hl]
    omega
  · rw [if_neg (by omega)]
    obtain ⟨m, rfl⟩ : ∃ m, k = (j + 1) + m := ⟨k - (j + 1), by omega⟩
    unfold dig
    have e : setD V j x / 4294967296 ^ (j + 1) = V / 4294967296 ^ (j + 1) := by
      exact setD_div hx
    rw [Nat.pow_add, ← Nat.div_div_eq_div_mul, ← Nat.div_div_eq_div_mul, e]
theorem setD_lt {V j x n : Nat} (hV : V < 4294967296 ^ n) (hx : x < 4294967296) (hj : j < n) : setD V j x < 4294967296 ^ n := by
  obtain ⟨m, rfl⟩ : ∃ m, n = m + (j + 1) := ⟨n - (j + 1), by omega⟩
  rw [Nat.pow_add, ← Nat.div_lt_iff_lt_mul (pw_pos _)] at hV ⊢
  rw [setD_div hx]
  exact hV

/-! ### Products -/

/-- A step of a product's row. -/
theorem mul_step {a b i k V c : Nat} (h : V + c * 4294967296 ^ (i + k) = (a % 4294967296 ^ i) * b + dig a i * (b % 4294967296 ^ k) * 4294967296 ^ i) :
    setD V (i + k) ((dig V (i + k) + dig a i * dig b k + c) % 4294967296) + ((dig V (i + k) + dig a i * dig b k + c) / 4294967296) * 4294967296 ^ (i + (k + 1)) = (a % 4294967296 ^ i) * b + dig a i * (b % 4294967296 ^ (k + 1)) * 4294967296 ^ i := by
  have e1 := setD_add V (i + k) ((dig V (i + k) + dig a i * dig b k + c) % 4294967296)
  have e2 := Nat.div_add_mod (dig V (i + k) + dig a i * dig b k + c) 4294967296
  rw [mod_pw, show i + (k + 1) = (i + k) + 1 by omega, pw_succ]
  rw [Nat.pow_add] at *
  generalize setD V (i + k) ((dig V (i + k) + dig a i * dig b k + c) % 4294967296) = V' at *
  generalize (dig V (i + k) + dig a i * dig b k + c) % 4294967296 = r at *
  generalize (dig V (i + k) + dig a i * dig b k + c) / 4294967296 = q at *
  generalize dig V (i + k) = d at *
  generalize dig a i = x at *
  generalize dig b k = y at *
  generalize b % 4294967296 ^ k = bm at *
  generalize a % 4294967296 ^ i = am at *
  generalize 4294967296 ^ i = P at *
  generalize 4294967296 ^ k = R at *
  grind
theorem mul_bound {d x y c : Nat} (hd : d < 4294967296) (hx : x < 4294967296) (hy : y < 4294967296) (hc : c < 4294967296) : d + x * y + c < 18446744073709551616 ∧ (d + x * y + c) / 4294967296 < 4294967296 := by
  have : x * y ≤ 4294967295 * 4294967295 := Nat.mul_le_mul (by omega) (by omega)
  omega

theorem mul_lt {a b i n m : Nat} (hi : i ≤ n) (ha : a < 4294967296 ^ n) (hb : b < 4294967296 ^ m) : (a % 4294967296 ^ i) * b < 4294967296 ^ (n + m + 1) := by
  have h1 := Nat.mod_lt a (pw_pos i)
  have h2 : a % 4294967296 ^ i ≤ 4294967296 ^ n := Nat.le_trans (Nat.le_of_lt h1) (Nat.pow_le_pow_right (by decide) hi)
  have h3 : (a % 4294967296 ^ i) * b ≤ 4294967296 ^ n * 4294967296 ^ m := Nat.mul_le_mul h2 (Nat.le_of_lt hb)
  rw [← Nat.pow_add] at h3
  rw [pw_succ]
  have := pw_pos (n + m)
  omega

/-! ### Order -/

theorem dig_div (a m k : Nat) : dig (a / 4294967296 ^ m) k = dig a (m + k) := by
  unfold dig
  rw [Nat.pow_add, Nat.div_div_eq_div_mul]
theorem nat_big (a b : Nat) : ∃ n, a < 4294967296 ^ n ∧ b < 4294967296 ^ n :=
  ⟨nl a + nl b, Nat.lt_of_lt_of_le (nl_lt a) (Nat.pow_le_pow_right (by decide) (by omega)), Nat.lt_of_lt_of_le (nl_lt b) (Nat.pow_le_pow_right (by decide) (by omega))⟩
theorem dig_all {a b : Nat} (h : ∀ i, dig a i = dig b i) : a = b := by
  obtain ⟨n, h1, h2⟩ := nat_big a b
  exact dig_ext h1 h2 fun i _ => h i
theorem div_eq {a b m : Nat} (h : ∀ i, m ≤ i → dig a i = dig b i) : a / 4294967296 ^ m = b / 4294967296 ^ m :=
  dig_all fun i => by rw [dig_div, dig_div]; exact h _ (by omega)
theorem dig_cmp {a b j : Nat} (h : ∀ i, j < i → dig a i = dig b i) (hd : dig a j < dig b j) : a < b := by
  have h1 := split_dig a j
  have h2 := split_dig b j
  rw [div_eq (m := j + 1) fun i hi => h i hi] at h1
  have h3 := Nat.mod_lt a (pw_pos j)
  generalize b / 4294967296 ^ (j + 1) = q at *
  generalize 4294967296 ^ j = P at *
  generalize a % P = x at *
  generalize b % P = y at *
  generalize dig a j = d at *
  generalize dig b j = e at *
  have : P * (4294967296 * q + d) + P ≤ P * (4294967296 * q + e) := by
    rw [← Nat.mul_succ]; exact Nat.mul_le_mul_left _ (by omega)
  omega
def ordN (a b : Nat) : Int := if a < b then -1 else if b < a then 1 else 0

theorem w_pred {j : Nat} (h : 0 < j) (hj : j ≤ 9223372036854775807) : IntKind.i64.wrap ((j : Int) - 1) = ((j - 1 : Nat) : Int) := by
  rw [IntWalk.i64_in _ (by omega)]; omega
theorem u_nat {x : Nat} (h : x < 18446744073709551616) : IntKind.u64.wrap (x : Int) = x := IntWalk.u64_in _ (by omega)
theorem u3_nat {x : Nat} (h : x < 4294967296) : IntKind.u32.wrap (x : Int) = x := IntWalk.u32_in _ (by omega)
theorem u_add {x y : Nat} (h : x + y < 18446744073709551616) : IntKind.u64.wrap ((x : Int) + (y : Int)) = ((x + y : Nat) : Int) := by rw [IntWalk.u64_in _ (by omega)]; simp
theorem u_mul {x y : Nat} (h : x * y < 18446744073709551616) : IntKind.u64.wrap ((x : Int) * (y : Int)) = ((x * y : Nat) : Int) := by
  rw [← Int.natCast_mul]; exact u_nat h
theorem u_sub {x y : Nat} (h : y ≤ x) (hx : x < 18446744073709551616) : IntKind.u64.wrap ((x : Int) - (y : Int)) = ((x - y : Nat) : Int) := by
  rw [IntWalk.u64_in _ (by omega)]; omega
theorem u_rem (x : Nat) : ((x : Int)).tmod 4294967296 = ((x % 4294967296 : Nat) : Int) := IntWalk.up_tmod rfl rfl
theorem u_quo {x : Nat} (h : x < 18446744073709551616) : IntKind.u64.wrap (((x : Int)).tdiv 4294967296) = ((x / 4294967296 : Nat) : Int) := by
  have e : ((x : Int)).tdiv 4294967296 = ((x / 4294967296 : Nat) : Int) := IntWalk.up_tdiv (y := 4294967296) rfl rfl
  rw [e]; exact u_nat (by omega)
theorem u3_rem (x : Nat) : IntKind.u32.wrap (((x : Int)).tmod 4294967296) = ((x % 4294967296 : Nat) : Int) := by
  rw [u_rem]; exact u3_nat (Nat.mod_lt _ (by decide))

end Go.Proofs.Ytdognchniaojoaa
