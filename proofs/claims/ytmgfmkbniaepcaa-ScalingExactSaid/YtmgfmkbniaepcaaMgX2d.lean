/- Numbers by limbs of 32 bits, in plain Lean: digits, lengths, sums, differences, products. -/
import Derived.Test.YtmgfmkbniaepcaaMgX2c
import Derived.Test.YtmgfmkbniaepcaaProg
import Derived.Lib.BitFns
import Derived.Test.YtmgfmkbniaepcaaBL
set_option linter.all false
namespace Go.Proofs.Ytmgfmkbniaepcaa
open Go Go.Vx
def dig (a i : Nat) : Nat := a / 4294967296 ^ i % 4294967296
theorem pw_pos (i : Nat) : 0 < 4294967296 ^ i := Nat.pow_pos (by decide)
theorem pw_succ (i : Nat) : 4294967296 ^ (i + 1) = 4294967296 ^ i * 4294967296 := Nat.pow_succ ..
theorem dig_lt (a i : Nat) : dig a i < 4294967296 := Nat.mod_lt _ (by decide)
theorem mod_pw (a i : Nat) : a % 4294967296 ^ (i + 1) = a % 4294967296 ^ i + 4294967296 ^ i * dig a i := Nat.mod_pow_succ
theorem dig_0 (a : Nat) : dig a 0 = a % 4294967296 := by simp [dig]
theorem dig_zero (i : Nat) : dig 0 i = 0 := by simp [dig]
theorem dig_succ (a i : Nat) : dig a (i + 1) = dig (a / 4294967296) i := by
  unfold dig
  rw [Nat.div_div_eq_div_mul, pw_succ, Nat.mul_comm]
theorem dig_big {a n i : Nat} (h : a < 4294967296 ^ n) (hi : n ≤ i) : dig a i = 0 := by
  unfold dig
  rw [Nat.div_eq_of_lt]
  exact Nat.lt_of_lt_of_le h (Nat.pow_le_pow_right (by decide) hi)
theorem mod_ext {a b : Nat} : ∀ {n : Nat}, (∀ i, i < n → dig a i = dig b i) → a % 4294967296 ^ n = b % 4294967296 ^ n
  | 0, _ => by simp [Nat.mod_one]
  | n + 1, h => by rw [mod_pw, mod_pw, mod_ext fun i hi => h i (by omega), h n (by omega)]
theorem dig_ext {a b n : Nat} (ha : a < 4294967296 ^ n) (hb : b < 4294967296 ^ n) (h : ∀ i, i < n → dig a i = dig b i) : a = b := by
  have := mod_ext h
  rwa [Nat.mod_eq_of_lt ha, Nat.mod_eq_of_lt hb] at this
theorem dig_mod {a j k : Nat} (h : k < j) : dig (a % 4294967296 ^ j) k = dig a k := by
  unfold dig
  obtain ⟨m, rfl⟩ : ∃ m, j = k + (m + 1) := ⟨j - k - 1, by omega⟩
  rw [Nat.pow_add, Nat.mod_mul_right_div_self, Nat.pow_succ, Nat.mul_comm, Nat.mod_mul_right_mod]
def nlF : Nat → Nat → Nat
  | 0, _ => 0
  | f + 1, a => if a = 0 then 0 else nlF f (a / 4294967296) + 1
def nl (a : Nat) : Nat := nlF a a
theorem nlF_le : ∀ (f a n : Nat), a ≤ f → (nlF f a ≤ n ↔ a < 4294967296 ^ n)
  | 0, a, n, h => by
    have := pw_pos n
    simp only [nlF]; omega
  | f + 1, a, n, h => by
    simp only [nlF]
    split
    · rename_i h0; have := pw_pos n; subst h0; simp; omega
    · cases n with
      | zero => simp; omega
      | succ n =>
        have := nlF_le f (a / 4294967296) n (by omega)
        rw [pw_succ, ← Nat.div_lt_iff_lt_mul (by decide), ← this]
        omega
theorem nl_le {a n : Nat} : nl a ≤ n ↔ a < 4294967296 ^ n := nlF_le a a n (Nat.le_refl _)
theorem nl_lt (a : Nat) : a < 4294967296 ^ nl a := nl_le.1 (Nat.le_refl _)
theorem nl_0 : nl 0 = 0 := rfl
theorem nl_eq0 {a : Nat} : nl a = 0 ↔ a = 0 := by
  have := @nl_le a 0
  simp at this; omega
theorem nl_top {a : Nat} (h : a ≠ 0) : dig a (nl a - 1) ≠ 0 := by
  obtain ⟨n, hn⟩ : ∃ n, nl a = n + 1 := ⟨nl a - 1, by have := nl_eq0 (a := a); omega⟩
  rw [hn, Nat.add_sub_cancel]
  have h1 := nl_lt a
  have h2 : ¬ a < 4294967296 ^ n := fun hh => by have := nl_le.2 hh; omega
  rw [hn, pw_succ] at h1
  unfold dig
  have h3 : a / 4294967296 ^ n < 4294967296 := by rw [Nat.div_lt_iff_lt_mul (pw_pos n), Nat.mul_comm]; exact h1
  rw [Nat.mod_eq_of_lt h3]
  have := Nat.div_pos (Nat.le_of_not_lt h2) (pw_pos n)
  omega
theorem nl_mono {a b : Nat} (h : a ≤ b) : nl a ≤ nl b := nl_le.2 (Nat.lt_of_le_of_lt h (nl_lt b))
theorem nl_trim {a n : Nat} (h : a < 4294967296 ^ n) (ht : n = 0 ∨ dig a (n - 1) ≠ 0) : nl a = n := by
  have h1 := nl_le.2 h
  rcases ht with rfl | ht
  · omega
  · rcases Nat.lt_or_ge (nl a) n with h2 | h2
    · exact absurd (dig_big (nl_lt a) (by omega : nl a ≤ n - 1)) ht
    · omega
theorem lt_trim {a n : Nat} (h : a < 4294967296 ^ (n + 1)) (h0 : dig a n = 0) : a < 4294967296 ^ n := by
  have := mod_pw a n
  rw [h0, Nat.mod_eq_of_lt h] at this
  rw [this]
  simpa using Nat.mod_lt a (pw_pos n)
def cy (a b i : Nat) : Nat := (a % 4294967296 ^ i + b % 4294967296 ^ i) / 4294967296 ^ i
theorem cy_0 (a b : Nat) : cy a b 0 = 0 := by simp [cy, Nat.mod_one]
theorem cy_le (a b i : Nat) : cy a b i ≤ 1 := by
  unfold cy
  have h1 := Nat.mod_lt a (pw_pos i)
  have h2 := Nat.mod_lt b (pw_pos i)
  have : (a % 4294967296 ^ i + b % 4294967296 ^ i) / 4294967296 ^ i < 2 := by
    rw [Nat.div_lt_iff_lt_mul (pw_pos i)]; omega
  omega
theorem div_pw (a b i : Nat) : (a + b) / 4294967296 ^ i = a / 4294967296 ^ i + b / 4294967296 ^ i + cy a b i := by
  unfold cy
  have h1 := Nat.div_add_mod a (4294967296 ^ i)
  have h2 := Nat.div_add_mod b (4294967296 ^ i)
  generalize hP : 4294967296 ^ i = P at *
  have hp : 0 < P := hP ▸ pw_pos i
  have e : a + b = P * (a / P + b / P) + (a % P + b % P) := by rw [Nat.mul_add]; omega
  conv => lhs; rw [e]
  rw [Nat.mul_add_div hp]
theorem add_dig (a b i : Nat) : (dig a i + dig b i + cy a b i) % 4294967296 = dig (a + b) i := by
  unfold dig
  rw [div_pw]
  omega
theorem add_cy (a b i : Nat) : (dig a i + dig b i + cy a b i) / 4294967296 = cy a b (i + 1) := by
  have e : cy a b (i + 1) = (a % 4294967296 ^ (i + 1) + b % 4294967296 ^ (i + 1)) / 4294967296 ^ (i + 1) := rfl
  rw [e, mod_pw, mod_pw, pw_succ, ← Nat.div_div_eq_div_mul]
  unfold cy
  generalize hP : 4294967296 ^ i = P at *
  have hp : 0 < P := hP ▸ pw_pos i
  have e : a % P + P * dig a i + (b % P + P * dig b i) = P * (dig a i + dig b i) + (a % P + b % P) := by rw [Nat.mul_add]; omega
  rw [e, Nat.mul_add_div hp]
def setD (V j x : Nat) : Nat := V - dig V j * 4294967296 ^ j + x * 4294967296 ^ j
theorem split_dig (V j : Nat) : V = 4294967296 ^ j * (4294967296 * (V / 4294967296 ^ (j + 1)) + dig V j) + V % 4294967296 ^ j := by
  have h1 := Nat.div_add_mod V (4294967296 ^ j)
  have h2 := Nat.div_add_mod (V / 4294967296 ^ j) 4294967296
  rw [Nat.div_div_eq_div_mul, ← pw_succ] at h2
  unfold dig
  rw [h2, h1]
theorem setD_eq (V j x : Nat) : setD V j x = 4294967296 ^ j * (4294967296 * (V / 4294967296 ^ (j + 1)) + x) + V % 4294967296 ^ j := by
  have := split_dig V j
  unfold setD
  generalize dig V j = d at *
  generalize V / 4294967296 ^ (j + 1) = h at *
  generalize V % 4294967296 ^ j = l at *
  generalize 4294967296 ^ j = P at *
  rw [Nat.mul_add] at this ⊢
  rw [Nat.mul_comm d, Nat.mul_comm x]
  omega
theorem setD_add (V j x : Nat) : setD V j x + dig V j * 4294967296 ^ j = V + x * 4294967296 ^ j := by
  have := split_dig V j
  rw [setD_eq]
  generalize dig V j = d at *
  generalize V / 4294967296 ^ (j + 1) = h at *
  generalize V % 4294967296 ^ j = l at *
  generalize 4294967296 ^ j = P at *
  rw [Nat.mul_add] at this ⊢
  rw [Nat.mul_comm d, Nat.mul_comm x]
  omega
theorem setD_div {V j x : Nat} (hx : x < 4294967296) : setD V j x / 4294967296 ^ (j + 1) = V / 4294967296 ^ (j + 1) := by
  have hl := Nat.mod_lt V (pw_pos j)
  have e : ∀ Y : Nat, Y / 4294967296 ^ (j + 1) = Y / 4294967296 ^ j / 4294967296 := fun Y => by rw [pw_succ, Nat.div_div_eq_div_mul]
  rw [setD_eq, e (4294967296 ^ j * (4294967296 * (V / 4294967296 ^ (j + 1)) + x) + V % 4294967296 ^ j), Nat.mul_add_div (pw_pos j), Nat.div_eq_of_lt hl]
  generalize V / 4294967296 ^ (j + 1) = h
  omega
theorem dig_setD {V j x : Nat} (hx : x < 4294967296) (k : Nat) : dig (setD V j x) k = if k = j then x else dig V k := by
  have hl := Nat.mod_lt V (pw_pos j)
  rcases Nat.lt_trichotomy k j with h | h | h
  · rw [if_neg (by omega), ← dig_mod h, ← dig_mod (a := V) h, setD_eq, Nat.mul_add_mod, Nat.mod_mod]
  · subst h
    rw [if_pos rfl, setD_eq]
    unfold dig
    rw [Nat.mul_add_div (pw_pos k), Nat.div_eq_of_lt hl]
    omega
  · rw [if_neg (by omega)]
    obtain ⟨m, rfl⟩ : ∃ m, k = (j + 1) + m := ⟨k - (j + 1), by omega⟩
    unfold dig
    have e : setD V j x / 4294967296 ^ (j + 1) = V / 4294967296 ^ (j + 1) := by
      exact setD_div hx
    rw [Nat.pow_add, ← Nat.div_div_eq_div_mul, ← Nat.div_div_eq_div_mul, e]
theorem setD_lt {V j x n : Nat} (hV : V < 4294967296 ^ n) (hx : x < 4294967296) (hj : j < n) : setD V j x < 4294967296 ^ n := by
  obtain ⟨m, rfl⟩ : ∃ m, n = m + (j + 1) := ⟨n - (j + 1), by omega⟩
  rw [Nat.pow_add, ← Nat.div_lt_iff_lt_mul (pw_pos _)] at hV ⊢
  rw [setD_div hx]
  exact hV
theorem mul_step {a b i k V c : Nat} (h : V + c * 4294967296 ^ (i + k) = (a % 4294967296 ^ i) * b + dig a i * (b % 4294967296 ^ k) * 4294967296 ^ i) :
    setD V (i + k) ((dig V (i + k) + dig a i * dig b k + c) % 4294967296) + ((dig V (i + k) + dig a i * dig b k + c) / 4294967296) * 4294967296 ^ (i + (k + 1)) = (a % 4294967296 ^ i) * b + dig a i * (b % 4294967296 ^ (k + 1)) * 4294967296 ^ i := by
  have e1 := setD_add V (i + k) ((dig V (i + k) + dig a i * dig b k + c) % 4294967296)
  have e2 := Nat.div_add_mod (dig V (i + k) + dig a i * dig b k + c) 4294967296
  rw [mod_pw, show i + (k + 1) = (i + k) + 1 by omega, pw_succ]
  rw [Nat.pow_add] at *
  generalize setD V (i + k) ((dig V (i + k) + dig a i * dig b k + c) % 4294967296) = V' at *
  generalize (dig V (i + k) + dig a i * dig b k + c) % 4294967296 = r at *
  generalize (dig V (i + k) + dig a i * dig b k + c) / 4294967296 = q at *
  generalize dig V (i + k) = d at *
  generalize dig a i = x at *
  generalize dig b k = y at *
  generalize b % 4294967296 ^ k = bm at *
  generalize a % 4294967296 ^ i = am at *
  generalize 4294967296 ^ i = P at *
  generalize 4294967296 ^ k = R at *
  grind
theorem mul_bound {d x y c : Nat} (hd : d < 4294967296) (hx : x < 4294967296) (hy : y < 4294967296) (hc : c < 4294967296) : d + x * y + c < 18446744073709551616 ∧ (d + x * y + c) / 4294967296 < 4294967296 := by
  have : x * y ≤ 4294967295 * 4294967295 := Nat.mul_le_mul (by omega) (by omega)
  omega
theorem mul_lt {a b i n m : Nat} (hi : i ≤ n) (ha : a < 4294967296 ^ n) (hb : b < 4294967296 ^ m) : (a % 4294967296 ^ i) * b < 4294967296 ^ (n + m + 1) := by
  have h1 := Nat.mod_lt a (pw_pos i)
  have h2 : a % 4294967296 ^ i ≤ 4294967296 ^ n := Nat.le_trans (Nat.le_of_lt h1) (Nat.pow_le_pow_right (by decide) hi)
  have h3 : (a % 4294967296 ^ i) * b ≤ 4294967296 ^ n * 4294967296 ^ m := Nat.mul_le_mul h2 (Nat.le_of_lt hb)
  rw [← Nat.pow_add] at h3
  rw [pw_succ]
  have := pw_pos (n + m)
  omega
theorem dig_div (a m k : Nat) : dig (a / 4294967296 ^ m) k = dig a (m + k) := by
  unfold dig
  rw [Nat.pow_add, Nat.div_div_eq_div_mul]
theorem nat_big (a b : Nat) : ∃ n, a < 4294967296 ^ n ∧ b < 4294967296 ^ n :=
  ⟨nl a + nl b, Nat.lt_of_lt_of_le (nl_lt a) (Nat.pow_le_pow_right (by decide) (by omega)), Nat.lt_of_lt_of_le (nl_lt b) (Nat.pow_le_pow_right (by decide) (by omega))⟩
theorem dig_all {a b : Nat} (h : ∀ i, dig a i = dig b i) : a = b := by
  obtain ⟨n, h1, h2⟩ := nat_big a b
  exact dig_ext h1 h2 fun i _ => h i
theorem div_eq {a b m : Nat} (h : ∀ i, m ≤ i → dig a i = dig b i) : a / 4294967296 ^ m = b / 4294967296 ^ m :=
  dig_all fun i => by rw [dig_div, dig_div]; exact h _ (by omega)
theorem dig_cmp {a b j : Nat} (h : ∀ i, j < i → dig a i = dig b i) (hd : dig a j < dig b j) : a < b := by
  have h1 := split_dig a j
  have h2 := split_dig b j
  rw [div_eq (m := j + 1) fun i hi => h i hi] at h1
  have h3 := Nat.mod_lt a (pw_pos j)
  generalize b / 4294967296 ^ (j + 1) = q at *
  generalize 4294967296 ^ j = P at *
  generalize a % P = x at *
  generalize b % P = y at *
  generalize dig a j = d at *
  generalize dig b j = e at *
  have : P * (4294967296 * q + d) + P ≤ P * (4294967296 * q + e) := by
    rw [← Nat.mul_succ]; exact Nat.mul_le_mul_left _ (by omega)
  omega
def ordN (a b : Nat) : Int := if a < b then -1 else if b < a then 1 else 0
theorem w_pred {j : Nat} (h : 0 < j) (hj : j ≤ 9223372036854775807) : IntKind.i64.wrap ((j : Int) - 1) = ((j - 1 : Nat) : Int) := by
  rw [IntWalk.i64_in _ (by omega)]; omega
theorem u_nat {x : Nat} (h : x < 18446744073709551616) : IntKind.u64.wrap (x : Int) = x := IntWalk.u64_in _ (by omega)
theorem u3_nat {x : Nat} (h : x < 4294967296) : IntKind.u32.wrap (x : Int) = x := IntWalk.u32_in _ (by omega)
theorem u_add {x y : Nat} (h : x + y < 18446744073709551616) : IntKind.u64.wrap ((x : Int) + (y : Int)) = ((x + y : Nat) : Int) := by rw [IntWalk.u64_in _ (by omega)]; simp
theorem u_mul {x y : Nat} (h : x * y < 18446744073709551616) : IntKind.u64.wrap ((x : Int) * (y : Int)) = ((x * y : Nat) : Int) := by
  rw [← Int.natCast_mul]; exact u_nat h
theorem u_sub {x y : Nat} (h : y ≤ x) (hx : x < 18446744073709551616) : IntKind.u64.wrap ((x : Int) - (y : Int)) = ((x - y : Nat) : Int) := by
  rw [IntWalk.u64_in _ (by omega)]; omega
theorem u_rem (x : Nat) : ((x : Int)).tmod 4294967296 = ((x % 4294967296 : Nat) : Int) := IntWalk.up_tmod rfl rfl
theorem u_quo {x : Nat} (h : x < 18446744073709551616) : IntKind.u64.wrap (((x : Int)).tdiv 4294967296) = ((x / 4294967296 : Nat) : Int) := by
  have e : ((x : Int)).tdiv 4294967296 = ((x / 4294967296 : Nat) : Int) := IntWalk.up_tdiv (y := 4294967296) rfl rfl
  rw [e]; exact u_nat (by omega)
theorem u3_rem (x : Nat) : IntKind.u32.wrap (((x : Int)).tmod 4294967296) = ((x % 4294967296 : Nat) : Int) := by
  rw [u_rem]; exact u3_nat (Nat.mod_lt _ (by decide))
end Go.Proofs.Ytmgfmkbniaepcaa
set_option linter.all false
namespace Go.Proofs.Ytmgfmkbniaepcaa
open Go Go.Vx
set_option maxRecDepth 100000
set_option maxHeartbeats 4000000
def v39 : VF := { ntmps := 14, res := [.tmp 4], body :=
 (.seq (.region [u1 4 .mov [.cn (.int .u64 0)]])
 (.seq (.seq (.region [u1 5 .mov [.tm 1],
 u1 6 .mov [.tm 0],
 u1 7 .len [.tm 6],
 u1 8 (.cmp .lss) [.tm 5, .tm 7]])
 (.cond (.tm 8) (.seq (.region [u1 9 .mov [.tm 0],
 u1 10 .mov [.tm 1],
 u1 11 (.idxAddr 1) [.tm 9, .tm 10],
 u1 12 (.load false 1) [.tm 11],
 u1 13 (.conv .u64) [.tm 12],
 u1 4 .mov [.tm 13]])
 .ret)
  .skip))
 (.seq (.region [u1 4 .mov [.cn (.int .u64 0)]])
 .ret))) }
theorem v39_is : vfunc Try.prog Try.f39 = some v39 := by kernel_rfl
def v24 : VF := { ntmps := 23, res := [.tmp 2], body :=
 (.seq (.region [u1 2 .mov [.cn .nil]])
 (.seq (.region [u1 4 .mov [.tm 0],
 u1 5 .len [.tm 4],
 u1 3 .mov [.tm 5]])
 (.seq (.block 0 (.loop (.seq (.seq (.region [u1 6 .mov [.tm 3],
 u1 7 (.cmp .gtr) [.tm 6, .cn (.int .i64 0)],
 u1 8 .mov [.tm 7],
 u2 9 8 true .mov [.tm 0],
 u2 10 8 true .mov [.tm 3],
 u2 11 8 true (.ari .sub) [.tm 10, .cn (.int .i64 1)],
 u2 12 8 true (.idxAddr 1) [.tm 9, .tm 11],
 u2 13 8 true (.load false 1) [.tm 12],
 u2 14 8 true (.cmp .eql) [.tm 13, .cn (.int .u32 0)],
 u1 15 .and [.tm 8, .tm 14]])
 (.cond (.tm 15) .skip
  (.exit 0)))
 (.block 1 (.region [u1 16 .mov [.tm 3],
 u1 17 (.ari .sub) [.tm 16, .cn (.int .i64 1)],
 u1 3 .mov [.tm 17]])))))
 (.seq (.region [u1 18 (.buildSlice 1 0 [(.int .u32 0)] []) [],
 u1 19 .mov [.tm 0],
 u1 20 .mov [.tm 3],
 u1 21 (.slice 1 false true) [.tm 19, .tm 20],
 u1 22 (.append 1 4 [(.int .u32 0)]) [.tm 18, .tm 21],
 u1 2 .mov [.tm 22]])
 .ret)))) }
theorem v24_is : vfunc Try.prog Try.f24 = some v24 := by kernel_rfl
def v11 : VF := { ntmps := 11, res := [.tmp 2], body :=
 (.seq (.region [u1 2 .mov [.cn .nil]])
 (.seq (.region [u1 3 .mov [.tm 0],
 u1 4 .rem [.tm 3, .cn (.int .u64 4294967296)],
 u1 5 (.conv .u32) [.tm 4],
 u1 6 .mov [.tm 0],
 u1 7 .quo [.tm 6, .cn (.int .u64 4294967296)],
 u1 8 (.conv .u32) [.tm 7],
 u1 9 (.buildSlice 1 2 [(.int .u32 0)] [(0, 1), (1, 1)]) [.tm 5, .tm 8],
 u1 10 (.call 24) [.tm 9],
 u1 2 .mov [.tm 10]])
 .ret)) }
theorem v11_is : vfunc Try.prog Try.f11 = some v11 := by kernel_rfl
def v27 : VF := { ntmps := 30, res := [.tmp 4], body :=
 (.seq (.region [u1 4 .mov [.cn (.int .i64 0)]])
 (.seq (.seq (.region [u1 6 .mov [.tm 0],
 u1 7 .len [.tm 6],
 u1 8 .mov [.tm 1],
 u1 9 .len [.tm 8],
 u1 10 .max [.tm 7, .tm 9],
 u1 11 (.ari .sub) [.tm 10, .cn (.int .i64 1)],
 u1 5 .mov [.tm 11]])
 (.block 0 (.loop (.seq (.seq (.region [u1 12 .mov [.tm 5],
 u1 13 (.cmp .geq) [.tm 12, .cn (.int .i64 0)]])
 (.cond (.tm 13) .skip
  (.exit 0)))
 (.seq (.block 1 (.seq (.seq (.region [u1 16 .mov [.tm 0],
 u1 17 .mov [.tm 5],
 u1 18 (.call 39) [.tm 16, .tm 17],
 u1 19 .mov [.tm 1],
 u1 20 .mov [.tm 5],
 u1 21 (.call 39) [.tm 19, .tm 20],
 u1 22 (.cmp .lss) [.tm 18, .tm 21]])
 (.cond (.tm 22) (.seq (.region [u1 4 .mov [.cn (.int .i64 (-1))]])
 .ret)
  .skip))
 (.seq (.region [u1 23 .mov [.tm 0],
 u1 24 .mov [.tm 5],
 u1 25 (.call 39) [.tm 23, .tm 24],
 u1 26 .mov [.tm 1],
 u1 27 .mov [.tm 5],
 u1 28 (.call 39) [.tm 26, .tm 27],
 u1 29 (.cmp .gtr) [.tm 25, .tm 28]])
 (.cond (.tm 29) (.seq (.region [u1 4 .mov [.cn (.int .i64 1)]])
 .ret)
  .skip))))
 (.region [u1 14 .mov [.tm 5],
 u1 15 (.ari .sub) [.tm 14, .cn (.int .i64 1)],
 u1 5 .mov [.tm 15]]))))))
 (.seq (.region [u1 4 .mov [.cn (.int .i64 0)]])
 .ret))) }
theorem v27_is : vfunc Try.prog Try.f27 = some v27 := by kernel_rfl
def padP (a n sz : Nat) (get : Nat → List SV) : Prop := sz = 1 ∧ n ≤ 100000 ∧ a < 4294967296 ^ n ∧ ∀ k, k < n → leXL (get k) [.int .u32 (dig a k)]
theorem padP_self {a n : Nat} (hn : n ≤ 100000) (ha : a < 4294967296 ^ n) : padP a n 1 (fun k => [.int .u32 (dig a k)]) := ⟨rfl, hn, ha, fun k _ => leXL_self _⟩
theorem padP_nl {a : Nat} (hn : nl a ≤ 100000) : padP a (nl a) 1 (fun k => [.int .u32 (dig a k)]) := padP_self hn (nl_lt a)
theorem padP_0 {a sz : Nat} {get : Nat → List SV} (h : padP a 0 sz get) : a = 0 := by
  have := h.2.2.1
  simp at this; omega
def natS (z : Bool) (a : Nat) : SV := .vs true z (nl a) 1 (fun k => [.int .u32 (dig a k)])
def limbC : Ctr := { alias := false, of := fun l => match l with
  | [.vs _ _ n sz get, .int .i64 i] => .ex Nat fun a => .pre (padP a n sz get ∧ 0 ≤ i) (.fin (.int .u64 (dig a i.toNat)) [])
  | _ => noC }
def trimC : Ctr := { alias := false, of := fun l => match l with
  | [.vs _ _ n sz get] => .ex Nat fun a => .pre (padP a n sz get) (.fin (natS false a) [])
  | _ => noC }
theorem own_nat {hp : List HO} {i n m : Nat} {z zz : Bool} {get : Nat → List SV} {a : Nat} (hn : n = nl a) (hz : z = zz) (hi : getH hp i = .own z 1 m get) (hg : ∀ j, j < n → get j = [.int .u32 (dig a j)]) :
    le 0 0 (expo hp (.own i 0 n 1)) (natS zz a) := by
  have e : expo hp (.own i 0 n 1) = .vs true z n 1 (fun k => viewN true hp 2 (get (addLo 0 k))) := by
    show view true hp (viewN true hp 2) (.own i 0 n 1) = _
    unfold view
    rw [hi]; rfl
  rw [e]
  unfold natS
  rw [le_vs]
  refine ⟨id, hz, hn, rfl, fun j hj => ?_⟩
  show leXL (viewN true hp 2 (get j)) _
  rw [hg j hj]
  exact leXL_self _
theorem ans_nat {k : SV → List HO → Prop} {al : Bool} {hp : List HO} {i n m : Nat} {z zz : Bool} {get : Nat → List SV} {a : Nat} (h : k (natS zz a) []) (hn : n = nl a) (hz : z = zz) (hi : getH hp i = .own z 1 m get) (hg : ∀ j, j < n → get j = [.int .u32 (dig a j)]) :
    answers al k (.own i 0 n 1) hp := ans_le h (own_nat hn hz hi hg) (fun _ => by simp [natS, freshS, freshL])
theorem ans_natS {k : SV → List HO → Prop} {al : Bool} {hp : List HO} {t z : Bool} {a : Nat} (h : k (natS z a) []) : answers al k (.vs true z (nl a) 1 (fun k => [.int .u32 (dig a k)])) hp :=
  ans_le h (le_self _ trivial) (fun _ => by simp [natS, freshS, freshL])
def R0 : Env := { ct := fun _ => none, fn := fun _ => none, meth := fun _ _ => none }
theorem R0_ok : EnvOk Try.prog R0 := by
  refine ⟨fun f c h => ?_, fun f vf h => ?_, (fun _ _ _ h => by cases h), by kernel_rfl, (fun _ h => by cases h)⟩
  · cases h
  · cases h
theorem limb_ok : limbC.ok Try.prog 39 := by
  refine contract Try.func39 v39_is R0_ok 100 limbC fun args k h => ?_
  simp only [limbC] at h
  split at h
  · rename_i tt z n sz get i
    obtain ⟨a, ⟨⟨rfl, hn, ha, hg⟩, hi⟩, h⟩ := h
    refine ⟨[.vs tt z n 1 (fun k => [.int .u32 (dig a k)]), .int .i64 i], by simpa [leL, le] using hg, ?_⟩
    (try dsimp only [v39, go_sem, reduceIte])
    (try simp only [t_all, forall_const, ne_eq, implies_true, Nat.reduceAdd, Nat.reduceLeDiff, reduceCtorEq, Nat.reduceEqDiff])
    refine ⟨fun hlt => ⟨⟨hi, hlt⟩, ans_int ?_⟩, fun hge => ans_int ?_⟩
    · rw [u_nat (Nat.lt_trans (dig_lt _ _) (by decide))]; exact h
    · rw [dig_big ha (by omega)] at h; exact h
  · exact h.1.elim
theorem trim_ok : trimC.ok Try.prog 24 := by
  refine contract Try.func24 v24_is R0_ok 200 trimC fun args k h => ?_
  simp only [trimC] at h
  split at h
  · rename_i tt z n sz get
    obtain ⟨a, ⟨rfl, hn, ha, hg⟩, h⟩ := h
    refine ⟨[.vs tt z n 1 (fun k => [.int .u32 (dig a k)])], by simpa [leL, le] using hg, ?_⟩
    (try dsimp only [v24, go_sem, reduceIte])
    (try simp only [t_all, forall_const, ne_eq, implies_true, Nat.reduceAdd, Nat.reduceLeDiff, reduceCtorEq, Nat.reduceEqDiff])
    refine Loop.keep [0, 2] Nat (fun j => [(3, .int .i64 j)]) (fun _ => []) [] (fun j => j ≤ n ∧ a < 4294967296 ^ j) (fun j => j) ?_ ?_
    · refine ⟨n, ⟨Nat.le_refl _, ha⟩, ?_⟩
      (try dsimp only [go_sem, reduceIte])
      simp only [fin_all, imp_self, implies_true, true_and, and_true]
    · rintro j ⟨hj, haj⟩
      (try dsimp only [Int.toNat_natCast, go_sem, reduceIte])
      (try simp only [t_all, forall_const, ne_eq, implies_true, Nat.reduceAdd, Nat.reduceLeDiff, reduceCtorEq, Nat.reduceEqDiff])
      refine ⟨fun hlt => ?_, fun hb => ?_, fun hb => ?_⟩
      · rw [w_pred (by omega) (by omega)]; omega
      · rw [Bool.and_eq_true, decide_eq_true_eq, decide_eq_true_eq] at hb
        obtain ⟨h1, h2⟩ := hb
        rw [w_pred (by omega) (by omega), Int.toNat_natCast] at h2
        refine ⟨j - 1, ⟨by omega, ?_⟩, by omega, ?_⟩
        · obtain ⟨m, rfl⟩ : ∃ m, j = m + 1 := ⟨j - 1, by omega⟩
          exact lt_trim haj (by simp at h2; exact_mod_cast h2)
        · rw [w_pred (by omega) (by omega)]
          simp only [fin_all, imp_self, implies_true, true_and, and_true] <;> simp
      · have e : nl a = j := by
          refine nl_trim haj ?_
          rw [Bool.and_eq_false_iff, decide_eq_false_iff_not, decide_eq_false_iff_not] at hb
          rcases Nat.eq_zero_or_pos j with h0 | h0
          · exact .inl h0
          · refine .inr fun hh => hb.elim (fun h => h (by omega)) fun h => h ?_
            rw [w_pred h0 (by omega), Int.toNat_natCast, hh]; rfl
        subst e
        (try dsimp only [Int.toNat_natCast, go_sem, reduceIte])
        (try simp only [t_all, forall_const, ne_eq, implies_true, Nat.reduceAdd, Nat.reduceLeDiff, reduceCtorEq, Nat.reduceEqDiff])
        refine ⟨by decide, ⟨by omega, by omega⟩, by unfold capOk; omega, ans_nat h (Nat.zero_add _) ?_ rfl fun j hj => ?_⟩
        · rfl
        · rw [if_neg (Nat.not_lt_zero _)]; rfl
  · exact h.1.elim
def ofC : Ctr := { alias := false, of := fun l => match l with
  | [.int .u64 n] => .pre (0 ≤ n ∧ n < 18446744073709551616) (.fin (natS false n.toNat) [])
  | _ => noC }
def orderC : Ctr := { alias := false, of := fun l => match l with
  | [.vs _ _ n sz get, .vs _ _ m sz' get'] => .ex Nat fun a => .ex Nat fun b => .pre (padP a n sz get ∧ padP b m sz' get') (.fin (.int .i64 (ordN a b)) [])
  | _ => noC }
def plusC : Ctr := { alias := false, of := fun l => match l with
  | [.vs _ _ n sz get, .vs _ _ m sz' get'] => .ex Nat fun a => .ex Nat fun b => .pre (padP a n sz get ∧ padP b m sz' get' ∧ n ≤ 99999 ∧ m ≤ 99999) (.fin (natS false (a + b)) [])
  | _ => noC }
def R1 : Env := { ct := fun n => match n with | 39 => some limbC | 24 => some trimC | _ => none, fn := fun _ => none, meth := fun _ _ => none }
theorem R1_ct39 : R1.ct 39 = some limbC := rfl
theorem R1_ct24 : R1.ct 24 = some trimC := rfl
theorem R1_ok : EnvOk Try.prog R1 := by
  refine ⟨fun f c h => ?_, fun f vf h => ?_, (fun _ _ _ h => by cases h), by kernel_rfl, (fun _ h => by cases h)⟩
  · simp only [R1] at h
    split at h
    · cases h; exact ⟨limb_ok, Try.f39, Try.func39, by kernel_rfl, by kernel_rfl⟩
    · cases h; exact ⟨trim_ok, Try.f24, Try.func24, by kernel_rfl, by kernel_rfl⟩
    · cases h
  · cases h
theorem of_pad (n : Nat) (h : n < 18446744073709551616) : padP n 2 1 fun k => viewL false [HO.own false 1 2 (chunk 1 [SV.int .u32 (IntKind.u32.wrap ((n : Int).tmod 4294967296)), SV.int .u32 (IntKind.u32.wrap (IntKind.u64.wrap ((n : Int).tdiv 4294967296)))])]
    (fun x => viewL false [HO.own false 1 2 (chunk 1 [SV.int .u32 (IntKind.u32.wrap ((n : Int).tmod 4294967296)), SV.int .u32 (IntKind.u32.wrap (IntKind.u64.wrap ((n : Int).tdiv 4294967296)))])] (fun x => junks x) x)
    (takeL 1 (dropL (k * 1) [SV.int .u32 (IntKind.u32.wrap ((n : Int).tmod 4294967296)), SV.int .u32 (IntKind.u32.wrap (IntKind.u64.wrap ((n : Int).tdiv 4294967296)))])) := by
  refine ⟨rfl, by decide, by omega, fun k hk => ?_⟩
  have h0 : dig n 0 = n % 4294967296 := dig_0 n
  have h1 : dig n 1 = n / 4294967296 := by rw [dig_succ, dig_0]; omega
  match k, hk with
  | 0, _ => rw [h0, u3_rem]; exact leXL_self _
  | 1, _ => rw [h1, u_quo h, u3_nat (by omega)]; exact leXL_self _
theorem of_ok : ofC.ok Try.prog 11 := by
  refine contract Try.func11 v11_is R1_ok 200 ofC fun args k h => ?_
  simp only [ofC] at h
  split at h
  · rename_i n
    obtain ⟨⟨h0, h1⟩, h⟩ := h
    obtain ⟨n, rfl⟩ := Int.eq_ofNat_of_zero_le h0
    refine ⟨[.int .u64 n], by simp [leL, le], ?_⟩
    (try dsimp only [v11, R1_ct24, trimC, natS, go_sem, reduceIte])
    (try simp only [t_all, forall_const, ne_eq, implies_true, Nat.reduceAdd, Nat.reduceLeDiff, reduceCtorEq, Nat.reduceEqDiff])
    refine ⟨by decide, by decide, by decide, n, of_pad n (by omega), ?_⟩
    exact ans_natS (t := true) h
  · exact h.1.elim
theorem order_ok : orderC.ok Try.prog 27 := by
  refine contract Try.func27 v27_is R1_ok 200 orderC fun args k h => ?_
  simp only [orderC] at h
  split at h
  · rename_i t1 z1 n sz get t2 z2 m sz' get'
    obtain ⟨a, b, ⟨⟨rfl, hn, ha, hg⟩, rfl, hm, hb, hg'⟩, h⟩ := h
    refine ⟨[.vs t1 z1 n 1 (fun k => [.int .u32 (dig a k)]), .vs t2 z2 m 1 (fun k => [.int .u32 (dig b k)])], ⟨by simpa [le] using hg, by simpa [le] using hg', trivial⟩, ?_⟩
    (try dsimp only [v27, R1_ct39, limbC, go_sem, reduceIte])
    (try simp only [t_all, forall_const, ne_eq, implies_true, Nat.reduceAdd, Nat.reduceLeDiff, reduceCtorEq, Nat.reduceEqDiff])
    refine Loop.keep [0, 0, 3] Nat (fun j => [(5, .int .i64 ((j : Int) - 1))]) (fun _ => []) [] (fun j => j ≤ 100000 ∧ ∀ i, j ≤ i → dig a i = dig b i) (fun j => j) ?_ ?_
    · refine ⟨max n m, ⟨by omega, fun i hi => by rw [dig_big ha (by omega), dig_big hb (by omega)]⟩, ?_⟩
      (try dsimp only [go_sem, reduceIte])
      simp only [fin_all, imp_self, implies_true, true_and, and_true]
      rw [IntWalk.i64_in _ (by omega)]
      simp <;> omega
    · rintro j ⟨hj, haj⟩
      (try dsimp only [R1_ct39, limbC, go_sem, reduceIte])
      (try simp only [t_all, forall_const, ne_eq, implies_true, Nat.reduceAdd, Nat.reduceLeDiff, reduceCtorEq, Nat.reduceEqDiff])
      refine ⟨fun hlt => ?_, fun hge => ?_⟩
      · obtain ⟨i, rfl⟩ : ∃ i, j = i + 1 := ⟨j - 1, by omega⟩
        have e : ((i + 1 : Nat) : Int) - 1 = i := by omega
        have gt : ∀ t, i < t → dig a t = dig b t := fun t ht => haj t (by omega)
        rw [e]
        simp only [Int.toNat_natCast]
        refine ⟨a, ⟨padP_self hn ha, by omega⟩, b, ⟨padP_self hm hb, by omega⟩, fun hc => ans_int ?_, fun hc => ⟨a, ⟨padP_self hn ha, by omega⟩, b, ⟨padP_self hm hb, by omega⟩, fun hd => ans_int ?_, fun hd => ?_⟩⟩
        · have := dig_cmp gt (by omega : dig a i < dig b i)
          rw [ordN, if_pos this] at h; exact h
        · have := dig_cmp (fun t ht => (gt t ht).symm) (by omega : dig b i < dig a i)
          rw [ordN, if_neg (by omega), if_pos this] at h; exact h
        · refine ⟨i, ⟨by omega, fun t ht => ?_⟩, by omega, ?_⟩
          · rcases Nat.eq_or_lt_of_le ht with rfl | ht
            · omega
            · exact gt t ht
          · simp only [fin_all, imp_self, implies_true, true_and, and_true]
            rw [IntWalk.i64_in _ (by omega)]
      · obtain rfl : j = 0 := by omega
        have : a = b := dig_all fun i => haj i (Nat.zero_le _)
        rw [ordN, if_neg (by omega), if_neg (by omega)] at h
        exact ans_int h
  · exact h.1.elim
end Go.Proofs.Ytmgfmkbniaepcaa
set_option linter.all false
namespace Go.Proofs.Ytmgfmkbniaepcaa
open Go Go.Vx
def bitsF : Nat → Nat → Nat
  | 0, _ => 0
  | f + 1, a => if a = 0 then 0 else bitsF f (a / 2) + 1
def bitsN (a : Nat) : Nat := bitsF a a
theorem p2_pos (i : Nat) : 0 < 2 ^ i := Nat.pow_pos (by decide)
theorem bitsF_le : ∀ (f a n : Nat), a ≤ f → (bitsF f a ≤ n ↔ a < 2 ^ n)
  | 0, a, n, h => by
    have := p2_pos n
    simp only [bitsF]; omega
  | f + 1, a, n, h => by
    simp only [bitsF]
    split
    · rename_i h0; have := p2_pos n; subst h0; simp; omega
    · cases n with
      | zero => simp; omega
      | succ n =>
        have := bitsF_le f (a / 2) n (by omega)
        rw [Nat.pow_succ, ← Nat.div_lt_iff_lt_mul (by decide), ← this]
        omega
theorem bitsN_le {a n : Nat} : bitsN a ≤ n ↔ a < 2 ^ n := bitsF_le a a n (Nat.le_refl _)
theorem bitsN_lt (a : Nat) : a < 2 ^ bitsN a := bitsN_le.1 (Nat.le_refl _)
theorem bitsN_0 : bitsN 0 = 0 := rfl
theorem bitsN_half {a : Nat} (h : 0 < a) : bitsN a = bitsN (a / 2) + 1 := by
  have h1 : ∀ n, bitsN a ≤ n ↔ bitsN (a / 2) + 1 ≤ n := fun n => by
    cases n with
    | zero => have := @bitsN_le a 0; simp at this; omega
    | succ n => rw [bitsN_le, Nat.pow_succ, ← Nat.div_lt_iff_lt_mul (by decide), ← bitsN_le]; omega
  have a1 := (h1 (bitsN (a / 2) + 1)).2 (Nat.le_refl _)
  have a2 := (h1 (bitsN a)).1 (Nat.le_refl _)
  omega
theorem bitsN_eq0 {a : Nat} : bitsN a = 0 ↔ a = 0 := by
  have := @bitsN_le a 0
  simp at this; omega
theorem pw_two (m : Nat) : 4294967296 ^ m = 2 ^ (32 * m) := by
  rw [Nat.pow_mul]
theorem bitsN_top {a m : Nat} (h : nl a = m + 1) : bitsN a = 32 * m + bitsN (dig a m) := by
  have h1 := nl_lt a
  have h2 : ¬ a < 4294967296 ^ m := fun hh => by have := nl_le.2 hh; omega
  rw [h, pw_succ] at h1
  have h3 : a / 4294967296 ^ m < 4294967296 := by rw [Nat.div_lt_iff_lt_mul (pw_pos m), Nat.mul_comm]; exact h1
  have h4 : dig a m = a / 4294967296 ^ m := by unfold dig; rw [Nat.mod_eq_of_lt h3]
  have h5 : ∀ t, bitsN a ≤ 32 * m + t ↔ bitsN (dig a m) ≤ t := fun t => by
    rw [bitsN_le, bitsN_le, Nat.pow_add, ← pw_two, h4, Nat.div_lt_iff_lt_mul (pw_pos m), Nat.mul_comm]
  have h6 : 32 * m ≤ bitsN a := by
    rcases Nat.lt_or_ge (bitsN a) (32 * m) with h' | h'
    · exact absurd (by rw [pw_two]; exact bitsN_le.1 (Nat.le_of_lt h')) h2
    · exact h'
  have a1 := (h5 (bitsN (dig a m))).2 (Nat.le_refl _)
  have a2 := (h5 (bitsN a - 32 * m)).1 (by omega)
  omega
theorem bitsN_nl (a : Nat) : bitsN a ≤ 32 * nl a := by
  rw [bitsN_le, ← pw_two]; exact nl_lt a
def bitN (a i : Nat) : Nat := a / 2 ^ i % 2
theorem bitN_lt (a i : Nat) : bitN a i < 2 := Nat.mod_lt _ (by decide)
theorem mod_div_bit {y r : Nat} (h : r < 32) : y % 4294967296 / 2 ^ r % 2 = y / 2 ^ r % 2 := by
  have e : (4294967296 : Nat) = 2 ^ r * (2 * 2 ^ (31 - r)) := by
    have h1 : (2 : Nat) * 2 ^ (31 - r) = 2 ^ (32 - r) := by
      rw [Nat.mul_comm, ← Nat.pow_succ]; congr 1; omega
    rw [h1, ← Nat.pow_add, show r + (32 - r) = 32 by omega]
  rw [e, Nat.mod_mul_right_div_self, Nat.mod_mul_right_mod]
theorem bitN_dig (a i : Nat) : bitN a i = dig a (i / 32) / 2 ^ (i % 32) % 2 := by
  unfold bitN dig
  rw [mod_div_bit (Nat.mod_lt _ (by decide)), pw_two, Nat.div_div_eq_div_mul, ← Nat.pow_add]
  congr 3; omega
theorem dig_mod_if (a j k : Nat) : dig (a % 4294967296 ^ j) k = if k < j then dig a k else 0 := by
  split
  · exact dig_mod ‹_›
  · exact dig_big (Nat.mod_lt _ (pw_pos j)) (by omega)
theorem and_one (x : Nat) : IntKind.u32.wrap ((BitVec.ofInt 32 (x : Int) &&& BitVec.ofInt 32 1).toNat : Int) = ((x % 2 : Nat) : Int) := by
  have e : (BitVec.ofInt 32 (x : Int) &&& BitVec.ofInt 32 1).toNat = x % 2 := by
    rw [BitVec.toNat_and]
    have h1 : (BitVec.ofInt 32 (x : Int)).toNat = x % 4294967296 := by simp [BitVec.toNat_ofInt] <;> omega
    have h2 : (BitVec.ofInt 32 1).toNat = 1 := by decide
    rw [h1, h2, Nat.and_one_is_mod] <;> omega
  rw [e]; exact u3_nat (by omega)
theorem ofInt_nat {x : Nat} (h : x < 4294967296) : (BitVec.ofInt 32 (x : Int)).toNat = x := by
  simp [BitVec.toNat_ofInt]; omega
theorem or_nat {x y : Nat} (hx : x < 4294967296) (hy : y < 4294967296) : IntKind.u32.wrap ((BitVec.ofInt 32 (x : Int) ||| BitVec.ofInt 32 (y : Int)).toNat : Int) = ((x ||| y : Nat) : Int) := by
  rw [BitVec.toNat_or, ofInt_nat hx, ofInt_nat hy]
  exact u3_nat (Nat.or_lt_two_pow (n := 32) hx hy)
theorem or_add {d s : Nat} (h : d / 2 ^ s % 2 = 0) : d ||| 2 ^ s = d + 2 ^ s := by
  have h1 := Nat.div_add_mod d (2 ^ s)
  have h2 := Nat.mod_lt d (p2_pos s)
  have e : d = 2 ^ s * (d / 2 ^ s) + d % 2 ^ s := h1.symm
  apply Nat.eq_of_testBit_eq
  intro j
  rw [Nat.testBit_or, Nat.testBit_two_pow]
  by_cases hj : s = j
  · subst hj
    have : (d + 2 ^ s).testBit s = !d.testBit s := by
      rw [Nat.add_comm]; exact Nat.testBit_two_pow_add_eq d s
    have hb : d.testBit s = false := by
      rw [Nat.testBit_eq_decide_div_mod_eq]; simp [h]
    rw [this, hb]; simp
  · have : (d + 2 ^ s).testBit j = d.testBit j := by
      rcases Nat.lt_or_ge j s with hlt | hge
      · rw [Nat.add_comm]; exact Nat.testBit_two_pow_add_gt hlt d
      · have hgt : s < j := by omega
        rw [Nat.testBit_eq_decide_div_mod_eq, Nat.testBit_eq_decide_div_mod_eq]
        have : (d + 2 ^ s) / 2 ^ j = d / 2 ^ j := by
          obtain ⟨m, rfl⟩ : ∃ m, j = s + 1 + m := ⟨j - (s + 1), by omega⟩
          rw [Nat.pow_add, ← Nat.div_div_eq_div_mul, ← Nat.div_div_eq_div_mul, Nat.pow_succ, ← Nat.div_div_eq_div_mul, ← Nat.div_div_eq_div_mul, Nat.add_div_right _ (p2_pos s)]
          congr 1; omega
        rw [this]
    rw [this]; simp [hj]
end Go.Proofs.Ytmgfmkbniaepcaa
set_option linter.all false
namespace Go.Proofs.Ytmgfmkbniaepcaa
open Go Go.Vx
def nsg (neg : Bool) (a : Nat) : Int := if neg then -(a : Int) else a
theorem nsg_abs (neg : Bool) (a : Nat) : (nsg neg a).natAbs = a := by
  unfold nsg; split <;> omega
end Go.Proofs.Ytmgfmkbniaepcaa
set_option linter.all false
namespace Go.Proofs.Ytmgfmkbniaepcaa
open Go Go.Vx
theorem ofInt_nat6 {x : Nat} (h : x < 18446744073709551616) : (BitVec.ofInt 64 (x : Int)).toNat = x := by
  simp [BitVec.toNat_ofInt]; omega
theorem and_mask {x : Nat} (h : x < 18446744073709551616) : IntKind.u64.wrap ((BitVec.ofInt 64 (x : Int) &&& BitVec.ofInt 64 4294967295).toNat : Int) = ((x % 4294967296 : Nat) : Int) := by
  have h2 : (BitVec.ofInt 64 4294967295).toNat = 2 ^ 32 - 1 := by decide
  rw [BitVec.toNat_and, ofInt_nat6 h, h2, Nat.and_two_pow_sub_one_eq_mod]
  exact u_nat (by omega)
theorem or_nat6 {x y : Nat} (hx : x < 18446744073709551616) (hy : y < 18446744073709551616) : IntKind.u64.wrap ((BitVec.ofInt 64 (x : Int) ||| BitVec.ofInt 64 (y : Int)).toNat : Int) = ((x ||| y : Nat) : Int) := by
  rw [BitVec.toNat_or, ofInt_nat6 hx, ofInt_nat6 hy]
  exact u_nat (Nat.or_lt_two_pow (n := 64) hx hy)
theorem shr_nat {x s : Nat} (hs : s ≤ 64) : (x : Int).fdiv (2 ^ min s 64) = ((x / 2 ^ s : Nat) : Int) := by
  rw [Nat.min_eq_left hs, Int.fdiv_eq_ediv_of_nonneg _ (Int.le_of_lt (Int.pow_pos (by decide)))]
  simp
theorem shl_nat {x s : Nat} (hs : s ≤ 64) (h : x * 2 ^ s < 18446744073709551616) : IntKind.u64.wrap ((x : Int) * 2 ^ min s 64) = ((x * 2 ^ s : Nat) : Int) := by
  rw [Nat.min_eq_left hs]
  have : (x : Int) * 2 ^ s = ((x * 2 ^ s : Nat) : Int) := by simp
  rw [this]; exact u_nat h
theorem u_mod (x : Int) : IntKind.u64.wrap x = x % 18446744073709551616 := by
  rw [IntKind.wrap_u64]
theorem u_modn (x : Nat) : IntKind.u64.wrap (x : Int) = ((x % 18446744073709551616 : Nat) : Int) := by
  rw [u_mod]; simp
theorem mul_hi {x y : Nat} (hx : x < 18446744073709551616) (hy : y < 18446744073709551616) :
    let x0 := x % 4294967296; let x1 := x / 4294967296; let y0 := y % 4294967296; let y1 := y / 4294967296
    let t := x1 * y0 + x0 * y0 / 4294967296
    let w1 := t % 4294967296 + x0 * y1
    x1 * y1 + t / 4294967296 + w1 / 4294967296 = x * y / 18446744073709551616 ∧ x0 * y0 < 18446744073709551616 ∧ x1 * y0 < 18446744073709551616 ∧ t < 18446744073709551616 ∧ x0 * y1 < 18446744073709551616 ∧ w1 < 18446744073709551616 ∧ x1 * y1 < 18446744073709551616 ∧ x1 * y1 + t / 4294967296 < 18446744073709551616 ∧ x1 * y1 + t / 4294967296 + w1 / 4294967296 < 18446744073709551616 := by
  intro x0 x1 y0 y1 t w1
  have e1 : x = 4294967296 * x1 + x0 := (Nat.div_add_mod x _).symm
  have e2 : y = 4294967296 * y1 + y0 := (Nat.div_add_mod y _).symm
  have h0 : x0 < 4294967296 := Nat.mod_lt _ (by decide)
  have h1 : y0 < 4294967296 := Nat.mod_lt _ (by decide)
  have h2 : x1 < 4294967296 := by omega
  have h3 : y1 < 4294967296 := by omega
  have m : ∀ {a b : Nat}, a < 4294967296 → b < 4294967296 → a * b ≤ 4294967295 * 4294967295 := fun ha hb => Nat.mul_le_mul (by omega) (by omega)
  have p1 := m h0 h1
  have p2 := m h2 h1
  have p3 := m h0 h3
  have p4 := m h2 h3
  have e : x * y = 18446744073709551616 * (x1 * y1) + 4294967296 * (x1 * y0 + x0 * y1) + x0 * y0 := by
    rw [e1, e2]; grind
  have ht : t = x1 * y0 + x0 * y0 / 4294967296 := rfl
  have hw : w1 = t % 4294967296 + x0 * y1 := rfl
  rw [e]
  generalize x0 * y0 = A at *
  generalize x1 * y0 = B at *
  generalize x0 * y1 = C at *
  generalize x1 * y1 = D at *
  omega
structure DigInv (y1 y0 a u q r : Nat) : Prop where
  eq : q * y1 + r = a
  ge : (a * 4294967296 + u) / (y1 * 4294967296 + y0) ≤ q
  le : q ≤ 4294967297
theorem dig_iff {y1 y0 a u q r : Nat} (hy : 0 < y1) (h : q * y1 + r = a) : q * (y1 * 4294967296 + y0) ≤ a * 4294967296 + u ↔ q * y0 ≤ 4294967296 * r + u := by
  have e : q * (y1 * 4294967296 + y0) = q * y1 * 4294967296 + q * y0 := by grind
  rw [e, ← h]
  generalize q * y1 = A
  generalize q * y0 = B
  omega
theorem dig_start {y1 y0 a u : Nat} (h1 : 2147483648 ≤ y1) (h0 : y0 < 4294967296) (ha : a < y1 * 4294967296 + y0) (hu : u < 4294967296) : DigInv y1 y0 a u (a / y1) (a - a / y1 * y1) ∧ a - a / y1 * y1 < 4294967296 ∨ 4294967296 ≤ y1 := by
  rcases Nat.lt_or_ge y1 4294967296 with hy | hy
  · left
    have hp : 0 < y1 := by omega
    have e := Nat.div_add_mod a y1
    have hm := Nat.mod_lt a hp
    rw [Nat.mul_comm] at e
    refine ⟨⟨by omega, ?_, ?_⟩, by omega⟩
    · rw [← Nat.lt_add_one_iff, Nat.div_lt_iff_lt_mul (by omega)]
      have : (a / y1 + 1) * (y1 * 4294967296 + y0) = (a / y1 * y1 + y1) * 4294967296 + (a / y1 + 1) * y0 := by grind
      rw [this]
      have : (0 : Nat) ≤ (a / y1 + 1) * y0 := Nat.zero_le _
      omega
    · rw [← Nat.lt_add_one_iff, Nat.div_lt_iff_lt_mul hp]
      omega
  · exact .inr hy
theorem dig_end {y1 y0 a u q r : Nat} (h : DigInv y1 y0 a u q r) (hy : 0 < y1) (hle : q * y0 ≤ 4294967296 * r + u) : q = (a * 4294967296 + u) / (y1 * 4294967296 + y0) := by
  have h1 := (dig_iff (u := u) (y0 := y0) hy h.eq).2 hle
  have h2 := (Nat.le_div_iff_mul_le (by omega)).2 h1
  have := h.ge
  omega
theorem dig_next {y1 y0 a u q r : Nat} (h : DigInv y1 y0 a u q r) (hy : 0 < y1) (ha : a < y1 * 4294967296 + y0) (hu : u < 4294967296) (hc : 4294967296 ≤ q ∨ 4294967296 * r + u < q * y0) : 0 < q ∧ DigInv y1 y0 a u (q - 1) (r + y1) := by
  have hlt : (a * 4294967296 + u) / (y1 * 4294967296 + y0) < q := by
    rcases hc with hc | hc
    · have : (a * 4294967296 + u) / (y1 * 4294967296 + y0) < 4294967296 := by
        rw [Nat.div_lt_iff_lt_mul (by omega)]; omega
      exact Nat.lt_of_lt_of_le this hc
    · rw [Nat.div_lt_iff_lt_mul (by omega)]
      refine Nat.lt_of_not_le fun hh => ?_
      have := (dig_iff (u := u) (y0 := y0) hy h.eq).1 hh
      omega
  have h1 := h.eq
  have h2 := h.le
  have hq : 0 < q := Nat.lt_of_le_of_lt (Nat.zero_le _) hlt
  refine ⟨hq, ⟨?_, by omega, by omega⟩⟩
  obtain ⟨m, rfl⟩ : ∃ m, q = m + 1 := ⟨q - 1, by omega⟩
  rw [Nat.add_sub_cancel]
  rw [Nat.succ_mul] at h1
  omega
theorem dig_break {y1 y0 a u q r : Nat} (h : DigInv y1 y0 a u q r) (hy : 0 < y1) (h0 : y0 < 4294967296) (hq : q ≤ 4294967296) (hr : 4294967296 ≤ r) : q = (a * 4294967296 + u) / (y1 * 4294967296 + y0) := by
  refine dig_end h hy ?_
  have : q * y0 ≤ 4294967296 * 4294967295 := Nat.mul_le_mul hq (by omega)
  omega
theorem two_digits' {M y a u1 u0 q1 r1 q0 r0 : Nat} (hy : 0 < y) (hq1 : q1 = (a * M + u1) / y) (hr1 : r1 = (a * M + u1) % y) (hq0 : q0 = (r1 * M + u0) / y) (hr0 : r0 = (r1 * M + u0) % y) :
    q1 * M + q0 = (a * (M * M) + (u1 * M + u0)) / y ∧ r0 = (a * (M * M) + (u1 * M + u0)) % y := by
  have e1 := Nat.div_add_mod (a * M + u1) y
  have e2 := Nat.div_add_mod (r1 * M + u0) y
  have hm := Nat.mod_lt (r1 * M + u0) hy
  rw [← hq1, ← hr1] at e1
  rw [← hq0, ← hr0] at e2
  rw [← hr0] at hm
  have e3 : a * (M * M) + (u1 * M + u0) = y * (q1 * M + q0) + r0 := by
    have : a * (M * M) + (u1 * M + u0) = (a * M + u1) * M + u0 := by grind
    rw [this, ← e1]
    have : (y * q1 + r1) * M + u0 = y * q1 * M + (r1 * M + u0) := by grind
    rw [this, ← e2]
    grind
  rw [e3, Nat.mul_add_div hy, Nat.div_eq_of_lt hm, Nat.mul_add_mod, Nat.mod_eq_of_lt hm]
  exact ⟨rfl, rfl⟩
theorem two_digits {y a u1 u0 q1 q0 r1 : Nat} (hy : 0 < y) (hq1 : q1 = (a * 4294967296 + u1) / y) (hr1 : r1 = (a * 4294967296 + u1) % y) (hq0 : q0 = (r1 * 4294967296 + u0) / y) :
    q1 * 4294967296 + q0 = (a * 18446744073709551616 + (u1 * 4294967296 + u0)) / y ∧ (r1 * 4294967296 + u0) % y = (a * 18446744073709551616 + (u1 * 4294967296 + u0)) % y :=
  two_digits' (M := 4294967296) hy hq1 hr1 hq0 rfl
theorem norm_facts {y : Nat} (hy : y < 18446744073709551616) (h0 : 0 < y) : bitsN y ≤ 64 ∧ 9223372036854775808 ≤ y * 2 ^ (64 - bitsN y) ∧ y * 2 ^ (64 - bitsN y) < 18446744073709551616 := by
  have hb : bitsN y ≤ 64 := bitsN_le.2 hy
  have hpos : 0 < bitsN y := Nat.pos_of_ne_zero fun h => by have := bitsN_eq0.1 h; omega
  have h1 := bitsN_lt y
  have h2 : 2 ^ (bitsN y - 1) ≤ y := by
    rcases Nat.lt_or_ge y (2 ^ (bitsN y - 1)) with h | h
    · have := bitsN_le.2 h; omega
    · exact h
  refine ⟨hb, ?_, ?_⟩
  · have : 2 ^ (bitsN y - 1) * 2 ^ (64 - bitsN y) ≤ y * 2 ^ (64 - bitsN y) := Nat.mul_le_mul_right _ h2
    rw [← Nat.pow_add, show bitsN y - 1 + (64 - bitsN y) = 63 by omega] at this
    exact this
  · have : y * 2 ^ (64 - bitsN y) < 2 ^ bitsN y * 2 ^ (64 - bitsN y) := Nat.mul_lt_mul_of_pos_right h1 (p2_pos _)
    rw [← Nat.pow_add, show bitsN y + (64 - bitsN y) = 64 by omega] at this
    exact this
theorem hi_shift {h x s : Nat} (hs : s ≤ 64) (hx : x < 18446744073709551616) : (h * 2 ^ s ||| x / 2 ^ (64 - s)) = h * 2 ^ s + x / 2 ^ (64 - s) ∧ x / 2 ^ (64 - s) < 2 ^ s ∧ (h * 2 ^ s + x / 2 ^ (64 - s)) * 18446744073709551616 + x * 2 ^ s % 18446744073709551616 = (h * 18446744073709551616 + x) * 2 ^ s := by
  have e : (18446744073709551616 : Nat) = 2 ^ (64 - s) * 2 ^ s := by rw [← Nat.pow_add, show 64 - s + s = 64 by omega]
  have hl : x / 2 ^ (64 - s) < 2 ^ s := by
    rw [Nat.div_lt_iff_lt_mul (p2_pos _), Nat.mul_comm, ← e]; exact hx
  refine ⟨?_, hl, ?_⟩
  · rw [Nat.mul_comm h]; exact (Nat.two_pow_add_eq_or_of_lt hl h).symm
  · have h1 := Nat.div_add_mod x (2 ^ (64 - s))
    have e2 : x * 2 ^ s % 18446744073709551616 = x % 2 ^ (64 - s) * 2 ^ s := by
      rw [e]; exact Nat.mul_mod_mul_right _ _ _
    rw [e2, e]
    generalize 2 ^ (64 - s) = P at *
    generalize 2 ^ s = R at *
    generalize x / P = a at *
    generalize x % P = b at *
    subst h1
    grind
end Go.Proofs.Ytmgfmkbniaepcaa
set_option linter.all false
namespace Go.Proofs.Ytmgfmkbniaepcaa
open Go Go.Vx
set_option maxRecDepth 100000
set_option maxHeartbeats 4000000
def v92 : VF := { ntmps := 21, res := [.tmp 2], body :=
 (.seq (.region [u1 2 .mov [.cn .nil]])
 (.seq (.block 0 (.loop (.seq (.seq (.region [u1 3 .mov [.tm 0],
 u1 4 .len [.tm 3],
 u1 5 (.cmp .gtr) [.tm 4, .cn (.int .i64 0)],
 u1 6 .mov [.tm 5],
 u2 7 6 true .mov [.tm 0],
 u2 8 6 true .mov [.tm 0],
 u2 9 6 true .len [.tm 8],
 u2 10 6 true (.ari .sub) [.tm 9, .cn (.int .i64 1)],
 u2 11 6 true (.idxAddr 1) [.tm 7, .tm 10],
 u2 12 6 true (.load false 1) [.tm 11],
 u2 13 6 true (.cmp .eql) [.tm 12, .cn (.int .u32 0)],
 u1 14 .and [.tm 6, .tm 13]])
 (.cond (.tm 14) .skip
  (.exit 0)))
 (.block 1 (.region [u1 15 .mov [.tm 0],
 u1 16 .mov [.tm 0],
 u1 17 .len [.tm 16],
 u1 18 (.ari .sub) [.tm 17, .cn (.int .i64 1)],
 u1 19 (.slice 1 false true) [.tm 15, .tm 18],
 u1 0 .mov [.tm 19]])))))
 (.seq (.region [u1 20 .mov [.tm 0],
 u1 2 .mov [.tm 20]])
 .ret))) }
theorem v92_is : vfunc Try.prog Try.f92 = some v92 := by kernel_rfl
def v85 : VF := { ntmps := 10, res := [.tmp 2], body :=
 (.seq (.region [u1 2 .mov [.cn .nil]])
 (.seq (.region [u1 3 .mov [.tm 0],
 u1 4 (.conv .u32) [.tm 3],
 u1 5 .mov [.tm 0],
 u1 6 .shr [.tm 5, .cn (.int .u64 32)],
 u1 7 (.conv .u32) [.tm 6],
 u1 8 (.buildSlice 1 2 [(.int .u32 0)] [(0, 1), (1, 1)]) [.tm 4, .tm 7],
 u1 9 (.call 92) [.tm 8],
 u1 2 .mov [.tm 9]])
 .ret)) }
theorem v85_is : vfunc Try.prog Try.f85 = some v85 := by kernel_rfl
def v78 : VF := { ntmps := 5, res := [.tmp 2], body :=
 (.seq (.region [u1 2 .mov [.cn .nil]])
 (.seq (.region [u1 3 .mov [.tm 0],
 u1 4 (.call 85) [.tm 3],
 u1 2 .mov [.tm 4]])
 .ret)) }
theorem v78_is : vfunc Try.prog Try.f78 = some v78 := by kernel_rfl
def v80 : VF := { ntmps := 43, res := [.tmp 4], body :=
 (.seq (.region [u1 4 .mov [.cn (.int .i64 0)]])
 (.seq (.block 0 (.seq (.region [u1 7 .mov [.tm 0],
 u1 8 .len [.tm 7],
 u1 9 .mov [.tm 1],
 u1 10 .len [.tm 9],
 u1 11 (.cmp .lss) [.tm 8, .tm 10],
 u1 6 .mov [.tm 11]])
 (.cond (.tm 6) (.seq (.region [u1 4 .mov [.cn (.int .i64 (-1))]])
 .ret)
  (.seq (.region [u1 13 .mov [.tm 0],
 u1 14 .len [.tm 13],
 u1 15 .mov [.tm 1],
 u1 16 .len [.tm 15],
 u1 17 (.cmp .gtr) [.tm 14, .tm 16],
 u1 12 .mov [.tm 17]])
 (.cond (.tm 12) (.seq (.region [u1 4 .mov [.cn (.int .i64 1)]])
 .ret)
  .skip)))))
 (.seq (.seq (.region [u1 18 .mov [.tm 0],
 u1 19 .len [.tm 18],
 u1 20 (.ari .sub) [.tm 19, .cn (.int .i64 1)],
 u1 5 .mov [.tm 20]])
 (.block 1 (.loop (.seq (.seq (.region [u1 21 .mov [.tm 5],
 u1 22 (.cmp .geq) [.tm 21, .cn (.int .i64 0)]])
 (.cond (.tm 22) .skip
  (.exit 1)))
 (.seq (.block 2 (.seq (.draw [] [w1 25 .mov [.tm 0],
 w1 26 .mov [.tm 5],
 w1 27 (.idxAddr 1) [.tm 25, .tm 26],
 w1 28 (.load false 1) [.tm 27],
 w1 29 .mov [.tm 1],
 w1 30 .mov [.tm 5],
 w1 31 (.idxAddr 1) [.tm 29, .tm 30],
 w1 32 (.load false 1) [.tm 31],
 w1 33 (.cmp .neq) [.tm 28, .tm 32]])
 (.cond (.tm 33) (.seq (.seq (.draw [] [w1 34 .mov [.tm 0],
 w1 35 .mov [.tm 5],
 w1 36 (.idxAddr 1) [.tm 34, .tm 35],
 w1 37 (.load false 1) [.tm 36],
 w1 38 .mov [.tm 1],
 w1 39 .mov [.tm 5],
 w1 40 (.idxAddr 1) [.tm 38, .tm 39],
 w1 41 (.load false 1) [.tm 40],
 w1 42 (.cmp .lss) [.tm 37, .tm 41]])
 (.cond (.tm 42) (.seq (.region [u1 4 .mov [.cn (.int .i64 (-1))]])
 .ret)
  .skip))
 (.seq (.region [u1 4 .mov [.cn (.int .i64 1)]])
 .ret))
  .skip)))
 (.region [u1 23 .mov [.tm 5],
 u1 24 (.ari .sub) [.tm 23, .cn (.int .i64 1)],
 u1 5 .mov [.tm 24]]))))))
 (.seq (.region [u1 4 .mov [.cn (.int .i64 0)]])
 .ret)))) }
theorem v80_is : vfunc Try.prog Try.f80 = some v80 := by kernel_rfl
def v82 : VF := { ntmps := 59, res := [.tmp 4], body :=
 (.seq (.region [u1 4 .mov [.cn .nil]])
 (.seq (.seq (.region [u1 9 .mov [.tm 0],
 u1 10 .len [.tm 9],
 u1 11 .mov [.tm 1],
 u1 12 .len [.tm 11],
 u1 13 (.cmp .lss) [.tm 10, .tm 12]])
 (.cond (.tm 13) (.region [u1 14 .mov [.tm 1],
 u1 15 .mov [.tm 0],
 u1 0 .mov [.tm 14],
 u1 1 .mov [.tm 15]])
  .skip))
 (.seq (.region [u1 16 .mov [.tm 0],
 u1 17 .len [.tm 16],
 u1 18 (.ari .add) [.tm 17, .cn (.int .i64 1)],
 u1 19 (.make 1 4 [(.int .u32 0)]) [.tm 18, .tm 18],
 u1 5 .mov [.tm 19]])
 (.seq (.region [u1 6 .mov [.cn (.int .u64 0)]])
 (.seq (.seq (.region [u1 20 .mov [.tm 0],
 u1 21 .len [.tm 20],
 u1 22 .mov [.cn (.int .i64 0)]])
 (.block 0 (.loop (.seq (.region [u1 23 (.cmp .lss) [.tm 22, .tm 21]])
 (.seq (.cond (.tm 23) .skip
  (.exit 0))
 (.seq (.block 1 (.seq (.region [u1 24 .mov [.tm 22],
 u1 7 .mov [.tm 24]])
 (.seq (.region [u1 25 .mov [.tm 0],
 u1 26 .mov [.tm 7],
 u1 27 (.idxAddr 1) [.tm 25, .tm 26],
 u1 28 (.load false 1) [.tm 27],
 u1 29 (.conv .u64) [.tm 28],
 u1 30 .mov [.tm 6],
 u1 31 (.ari .add) [.tm 29, .tm 30],
 u1 8 .mov [.tm 31]])
 (.seq (.seq (.region [u1 32 .mov [.tm 7],
 u1 33 .mov [.tm 1],
 u1 34 .len [.tm 33],
 u1 35 (.cmp .lss) [.tm 32, .tm 34]])
 (.cond (.tm 35) (.region [u1 36 .mov [.tm 8],
 u1 37 .mov [.tm 1],
 u1 38 .mov [.tm 7],
 u1 39 (.idxAddr 1) [.tm 37, .tm 38],
 u1 40 (.load false 1) [.tm 39],
 u1 41 (.conv .u64) [.tm 40],
 u1 42 (.ari .add) [.tm 36, .tm 41],
 u1 8 .mov [.tm 42]])
  .skip))
 (.region [u1 43 .mov [.tm 5],
 u1 44 .mov [.tm 7],
 u1 45 .mov [.tm 8],
 u1 46 (.conv .u32) [.tm 45],
 u1 47 .mov [.tm 8],
 u1 48 .shr [.tm 47, .cn (.int .u64 32)],
 u1 49 (.idxAddr 1) [.tm 43, .tm 44],
 u0 (.store 1) [.tm 49, .tm 46],
 u1 6 .mov [.tm 48]])))))
 (.region [u1 50 (.ari .add) [.tm 22, .cn (.int .i64 1)],
 u1 22 .mov [.tm 50]])))))))
 (.seq (.region [u1 51 .mov [.tm 5],
 u1 52 .mov [.tm 0],
 u1 53 .len [.tm 52],
 u1 54 .mov [.tm 6],
 u1 55 (.conv .u32) [.tm 54],
 u1 56 (.idxAddr 1) [.tm 51, .tm 53],
 u0 (.store 1) [.tm 56, .tm 55]])
 (.seq (.region [u1 57 .mov [.tm 5],
 u1 58 (.call 92) [.tm 57],
 u1 4 .mov [.tm 58]])
 .ret))))))) }
theorem v82_is : vfunc Try.prog Try.f82 = some v82 := by kernel_rfl
def WD0 : Env := { ct := fun _ => none, fn := fun n => match n with | 92 => some v92 | _ => none, meth := fun _ _ => none }
theorem WD0_ct92 : WD0.ct 92 = none := rfl
theorem WD0_fn92 : WD0.fn 92 = some v92 := rfl
theorem WD0_ok : EnvOk Try.prog WD0 := by
  refine ⟨fun f c h => ?_, fun f vf h => ?_, (fun _ _ _ h => by cases h), by kernel_rfl, (fun _ h => by cases h)⟩
  · cases h
  · simp only [WD0] at h
    split at h
    · cases h; exact ⟨Try.f92, Try.func92, v92_is, Try.f92, Try.func92, by kernel_rfl, by kernel_rfl⟩
    · cases h
theorem sh32 (z : Nat) : (z : Int).fdiv (2 ^ min (Int.toNat 32) 64) = ((z / 4294967296 : Nat) : Int) := shr_nat (s := 32) (by decide)
theorem u3_cut (z : Nat) : IntKind.u32.wrap (z : Int) = ((z % 4294967296 : Nat) : Int) := by rw [IntKind.wrap_u32]; omega
theorem wof_ok : ofC.ok Try.prog 85 := by
  refine contract Try.func85 v85_is WD0_ok 200 ofC fun args k h => ?_
  simp only [ofC] at h
  split at h
  · rename_i n
    obtain ⟨⟨h0, h1⟩, h⟩ := h
    obtain ⟨X, rfl⟩ := Int.eq_ofNat_of_zero_le h0
    obtain ⟨N, hN⟩ : ∃ N, N = 2 := ⟨_, rfl⟩
    have hXN : X < 4294967296 ^ N := by rw [hN]; omega
    refine ⟨[.int .u64 X], by simp [leL, le], ?_⟩
    dsimp only [v85, WD0_ct92, WD0_fn92, v92, go_sem, reduceIte]
    simp only [t_all, forall_const, ne_eq, implies_true, Nat.reduceAdd, Nat.reduceLeDiff, reduceCtorEq, Nat.reduceEqDiff]
    refine ⟨by decide, by decide, ?_⟩
    refine Loop.keep [0] Nat (fun j => [(0, .own 0 0 j 1)]) (fun _ => [(0, .own false 1 N (fun k => [.int .u32 (dig X k)]))]) [] (fun j => j ≤ N ∧ X < 4294967296 ^ j) (fun j => j) ?_ ?_
    · refine ⟨N, ⟨Nat.le_refl _, hXN⟩, ?_⟩
      dsimp only [go_sem, reduceIte]
      simp only [fin_all, imp_self, implies_true, true_and, and_true]
      refine ⟨⟨hN.symm, by decide⟩, by decide, hN.symm, fun k hk => ?_⟩
      rw [show (2 : Int) ^ min (Int.toNat 32) 64 = 4294967296 by decide, Int.fdiv_eq_ediv_of_nonneg _ (by decide)]
      have e0 : dig X 0 = X % 4294967296 := dig_0 X
      have e1 : dig X 1 = X / 4294967296 := by rw [dig_succ, dig_0]; omega
      match k, hk with
      | 0, _ => rw [e0]; exact ⟨⟨rfl, by rw [IntKind.wrap_u32]; omega⟩, trivial⟩
      | 1, _ => rw [e1]; exact ⟨⟨rfl, by rw [IntKind.wrap_u32]; omega⟩, trivial⟩
    · rintro j ⟨hj, haj⟩
      dsimp only [Int.toNat_natCast, go_sem, reduceIte]
      simp only [t_all, forall_const, ne_eq, implies_true, Nat.reduceAdd, Nat.reduceLeDiff, reduceCtorEq, Nat.reduceEqDiff]
      refine ⟨fun hlt => ?_, fun hlt => ?_, fun hb => ?_, fun hb => ?_⟩
      · rw [w_pred (by omega) (by omega)]; omega
      · rw [w_pred (by omega) (by omega)]; omega
      · rw [Bool.and_eq_true, decide_eq_true_eq, decide_eq_true_eq] at hb
        obtain ⟨h1, h2⟩ := hb
        rw [w_pred (by omega) (by omega), Int.toNat_natCast] at h2
        refine ⟨by rw [w_pred (by omega) (by omega)]; omega, j - 1, ⟨by omega, ?_⟩, by omega, ?_⟩
        · obtain ⟨m, rfl⟩ : ∃ m, j = m + 1 := ⟨j - 1, by omega⟩
          exact lt_trim haj (by simp at h2; exact_mod_cast h2)
        · rw [w_pred (by omega) (by omega)]
          simp only [fin_all, imp_self, implies_true, true_and, and_true] <;> simp [leL, le]
      · have e : nl X = j := by
          refine nl_trim haj ?_
          rw [Bool.and_eq_false_iff, decide_eq_false_iff_not, decide_eq_false_iff_not] at hb
          rcases Nat.eq_zero_or_pos j with h0 | h0
          · exact .inl h0
          · refine .inr fun hh => hb.elim (fun h => h (by omega)) fun h => h ?_
            rw [w_pred h0 (by omega), Int.toNat_natCast, hh]; rfl
        subst e
        exact ans_nat h rfl rfl rfl fun j hj => rfl
  · exact h.1.elim
def WD1 : Env := { ct := fun n => match n with | 85 => some ofC | _ => none, fn := fun n => match n with | 92 => some v92 | _ => none, meth := fun _ _ => none }
theorem WD1_ct85 : WD1.ct 85 = some ofC := rfl
theorem WD1_ct92 : WD1.ct 92 = none := rfl
theorem WD1_fn92 : WD1.fn 92 = some v92 := rfl
theorem WD1_ok : EnvOk Try.prog WD1 := by
  refine ⟨fun f c h => ?_, fun f vf h => ?_, (fun _ _ _ h => by cases h), by kernel_rfl, (fun _ h => by cases h)⟩
  · simp only [WD1] at h
    split at h
    · cases h; exact ⟨wof_ok, Try.f85, Try.func85, by kernel_rfl, by kernel_rfl⟩
    · cases h
  · simp only [WD1] at h
    split at h
    · cases h; exact ⟨Try.f92, Try.func92, v92_is, Try.f92, Try.func92, by kernel_rfl, by kernel_rfl⟩
    · cases h
theorem wOf_ok : ofC.ok Try.prog 78 := by
  refine contract Try.func78 v78_is WD1_ok 200 ofC fun args k h => ?_
  simp only [ofC] at h
  split at h
  · rename_i n
    obtain ⟨⟨h0, h1⟩, h⟩ := h
    refine ⟨[.int .u64 n], by simp [leL, le], ?_⟩
    dsimp only [v78, WD1_ct85, ofC, natS, go_sem, reduceIte]
    simp only [t_all, forall_const, ne_eq, implies_true, Nat.reduceAdd, Nat.reduceLeDiff, reduceCtorEq, Nat.reduceEqDiff]
    exact ⟨⟨h0, h1⟩, ans_natS (t := true) h⟩
  · exact h.1.elim
def wcmpC : Ctr := { alias := false, of := fun l => match l with
  | [.vs _ _ n sz get, .vs _ _ m sz' get'] => .ex Nat fun a => .ex Nat fun b => .pre (padP a n sz get ∧ padP b m sz' get' ∧ n = nl a ∧ m = nl b) (.fin (.int .i64 (ordN a b)) [])
  | _ => noC }
theorem ordN_lt {a b : Nat} (h : nl a < nl b) : ordN a b = -1 := by
  have : a < b := Nat.lt_of_not_le fun hh => by have := nl_mono hh; omega
  rw [ordN, if_pos this]
theorem ordN_gt {a b : Nat} (h : nl b < nl a) : ordN a b = 1 := by
  have : b < a := Nat.lt_of_not_le fun hh => by have := nl_mono hh; omega
  rw [ordN, if_neg (by omega), if_pos this]
theorem wcmp_ok : wcmpC.ok Try.prog 80 := by
  refine contract Try.func80 v80_is WD1_ok 200 wcmpC fun args k h => ?_
  simp only [wcmpC] at h
  split at h
  · rename_i t1 z1 n sz get t2 z2 m sz' get'
    obtain ⟨a, b, ⟨⟨rfl, hn, ha, hg⟩, ⟨rfl, hm, hb, hg'⟩, hna, hmb⟩, h⟩ := h
    refine ⟨[.vs t1 z1 n 1 (fun k => [.int .u32 (dig a k)]), .vs t2 z2 m 1 (fun k => [.int .u32 (dig b k)])], ⟨by simpa [le] using hg, by simpa [le] using hg', trivial⟩, ?_⟩
    dsimp only [v80, go_sem, reduceIte]
    simp only [t_all, forall_const, ne_eq, implies_true, Nat.reduceAdd, Nat.reduceLeDiff, reduceCtorEq, Nat.reduceEqDiff]
    refine ⟨fun c1 => ans_int ?_, fun c1 => ⟨fun c2 => ans_int ?_, fun c2 => ?_⟩⟩
    · rw [ordN_lt (by omega)] at h; exact h
    · rw [ordN_gt (by omega)] at h; exact h
    refine Loop.keep [0, 0, 3] Nat (fun j => [(5, .int .i64 ((j : Int) - 1))]) (fun _ => []) [] (fun j => j ≤ n ∧ ∀ i, j ≤ i → dig a i = dig b i) (fun j => j) ?_ ?_
    · refine ⟨n, ⟨Nat.le_refl _, fun i hi => by rw [dig_big ha (by omega), dig_big hb (by omega)]⟩, ?_⟩
      dsimp only [go_sem, reduceIte]
      simp only [fin_all, imp_self, implies_true, true_and, and_true]
      rw [IntWalk.i64_in _ (by omega)]
      try simp
    · rintro j ⟨hj, haj⟩
      dsimp only [Int.toNat_natCast, go_sem, reduceIte]
      simp only [t_all, forall_const, ne_eq, implies_true, Nat.reduceAdd, Nat.reduceLeDiff, reduceCtorEq, Nat.reduceEqDiff]
      refine ⟨fun hlt => ?_, fun hge => ?_⟩
      · obtain ⟨i, rfl⟩ : ∃ i, j = i + 1 := ⟨j - 1, by omega⟩
        have e : ((i + 1 : Nat) : Int) - 1 = i := by omega
        have gt : ∀ t, i < t → dig a t = dig b t := fun t ht => haj t (by omega)
        rw [e]
        simp only [Int.toNat_natCast]
        refine ⟨⟨by omega, by omega⟩, ⟨by omega, by omega⟩, fun hd => ⟨⟨by omega, by omega⟩, ⟨by omega, by omega⟩, fun hc => ans_int ?_, fun hc => ans_int ?_⟩, fun hd => ⟨i, ⟨by omega, fun t ht => ?_⟩, by omega, ?_⟩⟩
        · have := dig_cmp gt (by omega : dig a i < dig b i)
          rw [ordN, if_pos this] at h; exact h
        · have := dig_cmp (fun t ht => (gt t ht).symm) (by omega : dig b i < dig a i)
          rw [ordN, if_neg (by omega), if_pos this] at h; exact h
        · rcases Nat.eq_or_lt_of_le ht with rfl | ht
          · omega
          · exact gt t ht
        · simp only [fin_all, imp_self, implies_true, true_and, and_true]
          rw [IntWalk.i64_in _ (by omega)]
          try simp
      · obtain rfl : j = 0 := by omega
        have : a = b := dig_all fun i => haj i (Nat.zero_le _)
        rw [ordN, if_neg (by omega), if_neg (by omega)] at h
        exact ans_int h
  · exact h.1.elim
theorem wplus_ok : plusC.ok Try.prog 82 := by
  refine contract Try.func82 v82_is WD1_ok 300 plusC fun args k h => ?_
  simp only [plusC] at h
  split at h
  · rename_i t1 z1 n sz get t2 z2 m sz' get'
    obtain ⟨a, b, ⟨⟨rfl, hn, ha, hg⟩, ⟨rfl, hm, hb, hg'⟩, hn9, hm9⟩, h⟩ := h
    refine ⟨[.vs t1 z1 n 1 (fun k => [.int .u32 (dig a k)]), .vs t2 z2 m 1 (fun k => [.int .u32 (dig b k)])], ⟨by simpa [le] using hg, by simpa [le] using hg', trivial⟩, ?_⟩
    dsimp only [v82, WD1_ct92, WD1_fn92, v92, go_sem, reduceIte]
    simp only [t_all, forall_const, ne_eq, implies_true, Nat.reduceAdd, Nat.reduceLeDiff, reduceCtorEq, Nat.reduceEqDiff]
    refine ⟨fun hlt => ?_, fun hge => ?_⟩
    · obtain ⟨q, rfl⟩ : ∃ q, q = n := ⟨_, rfl⟩
      obtain ⟨n, rfl⟩ : ∃ q, q = m := ⟨_, rfl⟩
      obtain ⟨m, rfl⟩ : ∃ m, m = q := ⟨_, rfl⟩
      obtain ⟨q, rfl⟩ : ∃ q, q = a := ⟨_, rfl⟩
      obtain ⟨a, rfl⟩ : ∃ a, a = b := ⟨_, rfl⟩
      obtain ⟨b, rfl⟩ : ∃ b, b = q := ⟨_, rfl⟩
      rw [Nat.add_comm] at h
      obtain ⟨N, hNn⟩ : ∃ N, N = n + 1 := ⟨_, rfl⟩
      obtain ⟨X, hX⟩ : ∃ X, X = a + b := ⟨_, rfl⟩
      have hmn : m ≤ n := by omega
      have ha1 : a < 4294967296 ^ n := by assumption
      have hb1 : b < 4294967296 ^ m := by assumption
      have eN : IntKind.i64.wrap ((n : Int) + 1) = ((N : Nat) : Int) := by rw [hNn, IntWalk.i64_in _ (by omega)]; omega
      rw [eN]
      simp only [Int.toNat_natCast]
      refine ⟨⟨by decide, by omega, by omega, by unfold capOk; omega⟩, ?_⟩
      refine Loop.keep [0, 0, 3, 14, 0] Nat (fun i => [(6, .int .u64 (cy a b i)), (22, .int .i64 i)]) (fun i => [(0, .own false 1 N (fun k => [.int .u32 (dig (X % 4294967296 ^ i) k)]))]) [] (fun i => i ≤ n) (fun i => n - i) ?_ ?_
      · refine ⟨0, by omega, ?_⟩
        dsimp only [go_sem, reduceIte]
        simp only [fin_all, imp_self, implies_true, true_and, and_true]
        simp [cy_0, Nat.mod_one, dig_zero, leL, le]
      · rintro i hi
        dsimp only [WD1_ct92, WD1_fn92, v92, Int.toNat_natCast, go_sem, reduceIte]
        simp only [t_all, forall_const, ne_eq, implies_true, Nat.reduceAdd, Nat.reduceLeDiff, reduceCtorEq, Nat.reduceEqDiff]
        refine ⟨fun hlt => ⟨⟨by omega, by omega⟩, fun hc => ⟨⟨by omega, by omega⟩, by decide, ⟨by omega, by omega⟩, by omega, i + 1, by omega, by omega, ?_⟩, fun hc => ⟨by decide, ⟨by omega, by omega⟩, by omega, i + 1, by omega, by omega, ?_⟩⟩, fun hge => ?_⟩
        · have hd1 := dig_lt a i
          have hd2 := dig_lt b i
          have hcy := cy_le a b i
          have e1 := add_dig a b i
          have e2 := add_cy a b i
          rw [show dig a i + dig b i + cy a b i = dig a i + cy a b i + dig b i by omega] at e1 e2
          rw [u_nat (by omega : dig a i < 18446744073709551616), u_nat (by omega : dig b i < 18446744073709551616), u_add (by omega), u_add (by omega), sh32, u3_cut, e1, e2, IntWalk.i64_in ((i : Int) + 1) (by omega)]
          simp only [fin_all, imp_self, implies_true, true_and, and_true]
          refine ⟨by simp, fun j hj => ?_⟩
          rw [dig_mod_if, dig_mod_if, hX]
          by_cases hji : j = i
          · rw [if_pos hji, if_pos (by omega), hji]; simp only [leL, le, and_self]
          · rw [if_neg hji]; simp only [show (j < i + 1) ↔ (j < i) from by omega]; simp only [leL, le, and_self]
        · have hd1 := dig_lt a i
          have hd2 : dig b i = 0 := dig_big hb1 (by omega)
          have hcy := cy_le a b i
          have e1 := add_dig a b i
          have e2 := add_cy a b i
          rw [hd2, Nat.add_zero] at e1 e2
          rw [u_nat (by omega : dig a i < 18446744073709551616), u_add (by omega), sh32, u3_cut, e1, e2, IntWalk.i64_in ((i : Int) + 1) (by omega)]
          simp only [fin_all, imp_self, implies_true, true_and, and_true]
          refine ⟨by simp, fun j hj => ?_⟩
          rw [dig_mod_if, dig_mod_if, hX]
          by_cases hji : j = i
          · rw [if_pos hji, if_pos (by omega), hji]; simp only [leL, le, and_self]
          · rw [if_neg hji]; simp only [show (j < i + 1) ↔ (j < i) from by omega]; simp only [leL, le, and_self]
        · obtain rfl : i = n := by omega
          refine ⟨⟨by omega, by omega⟩, by omega, ?_⟩
          have hXN : X < 4294967296 ^ N := by
            have h2 : b < 4294967296 ^ i := Nat.lt_of_lt_of_le hb1 (Nat.pow_le_pow_right (by decide) hmn)
            rw [hX, hNn, pw_succ]; omega
          have htop : IntKind.u32.wrap ((cy a b i : Nat) : Int) = ((dig X i : Nat) : Int) := by
            have e1 := add_dig a b i
            have hcy := cy_le a b i
            rw [dig_big ha1 (Nat.le_refl _), dig_big hb1 hmn] at e1
            rw [u3_cut, hX, ← e1]
            omega
          rw [htop]
          rw [← hX] at h
          refine Loop.keep [0] Nat (fun j => [(0, .own 0 0 j 1)]) (fun _ => [(0, .own false 1 N (fun k => [.int .u32 (dig X k)]))]) [] (fun j => j ≤ N ∧ X < 4294967296 ^ j) (fun j => j) ?_ ?_
          · refine ⟨N, ⟨Nat.le_refl _, hXN⟩, ?_⟩
            dsimp only [go_sem, reduceIte]
            simp only [fin_all, imp_self, implies_true, true_and, and_true]
            refine ⟨by decide, by decide, fun j hj => ?_⟩
            split
            · rename_i e; rw [e]; exact ⟨⟨rfl, rfl⟩, trivial⟩
            · rw [dig_mod (by omega)]; exact ⟨⟨rfl, rfl⟩, trivial⟩
          · rintro j ⟨hj, haj⟩
            dsimp only [Int.toNat_natCast, go_sem, reduceIte]
            simp only [t_all, forall_const, ne_eq, implies_true, Nat.reduceAdd, Nat.reduceLeDiff, reduceCtorEq, Nat.reduceEqDiff]
            refine ⟨fun hlt => ?_, fun hlt => ?_, fun hb => ?_, fun hb => ?_⟩
            · rw [w_pred (by omega) (by omega)]; omega
            · rw [w_pred (by omega) (by omega)]; omega
            · rw [Bool.and_eq_true, decide_eq_true_eq, decide_eq_true_eq] at hb
              obtain ⟨h1, h2⟩ := hb
              rw [w_pred (by omega) (by omega), Int.toNat_natCast] at h2
              refine ⟨by rw [w_pred (by omega) (by omega)]; omega, j - 1, ⟨by omega, ?_⟩, by omega, ?_⟩
              · obtain ⟨m, rfl⟩ : ∃ m, j = m + 1 := ⟨j - 1, by omega⟩
                exact lt_trim haj (by simp at h2; exact_mod_cast h2)
              · rw [w_pred (by omega) (by omega)]
                simp only [fin_all, imp_self, implies_true, true_and, and_true] <;> simp [leL, le]
            · have e : nl X = j := by
                refine nl_trim haj ?_
                rw [Bool.and_eq_false_iff, decide_eq_false_iff_not, decide_eq_false_iff_not] at hb
                rcases Nat.eq_zero_or_pos j with h0 | h0
                · exact .inl h0
                · refine .inr fun hh => hb.elim (fun h => h (by omega)) fun h => h ?_
                  rw [w_pred h0 (by omega), Int.toNat_natCast, hh]; rfl
              subst e
              exact ans_nat h rfl rfl rfl fun j hj => rfl
    · obtain ⟨N, hNn⟩ : ∃ N, N = n + 1 := ⟨_, rfl⟩
      obtain ⟨X, hX⟩ : ∃ X, X = a + b := ⟨_, rfl⟩
      have hmn : m ≤ n := by omega
      have ha1 : a < 4294967296 ^ n := by assumption
      have hb1 : b < 4294967296 ^ m := by assumption
      have eN : IntKind.i64.wrap ((n : Int) + 1) = ((N : Nat) : Int) := by rw [hNn, IntWalk.i64_in _ (by omega)]; omega
      rw [eN]
      simp only [Int.toNat_natCast]
      refine ⟨⟨by decide, by omega, by omega, by unfold capOk; omega⟩, ?_⟩
      refine Loop.keep [0, 0, 3, 14, 0] Nat (fun i => [(6, .int .u64 (cy a b i)), (22, .int .i64 i)]) (fun i => [(0, .own false 1 N (fun k => [.int .u32 (dig (X % 4294967296 ^ i) k)]))]) [] (fun i => i ≤ n) (fun i => n - i) ?_ ?_
      · refine ⟨0, by omega, ?_⟩
        dsimp only [go_sem, reduceIte]
        simp only [fin_all, imp_self, implies_true, true_and, and_true]
        simp [cy_0, Nat.mod_one, dig_zero, leL, le]
      · rintro i hi
        dsimp only [WD1_ct92, WD1_fn92, v92, Int.toNat_natCast, go_sem, reduceIte]
        simp only [t_all, forall_const, ne_eq, implies_true, Nat.reduceAdd, Nat.reduceLeDiff, reduceCtorEq, Nat.reduceEqDiff]
        refine ⟨fun hlt => ⟨⟨by omega, by omega⟩, fun hc => ⟨⟨by omega, by omega⟩, by decide, ⟨by omega, by omega⟩, by omega, i + 1, by omega, by omega, ?_⟩, fun hc => ⟨by decide, ⟨by omega, by omega⟩, by omega, i + 1, by omega, by omega, ?_⟩⟩, fun hge => ?_⟩
        · have hd1 := dig_lt a i
          have hd2 := dig_lt b i
          have hcy := cy_le a b i
          have e1 := add_dig a b i
          have e2 := add_cy a b i
          rw [show dig a i + dig b i + cy a b i = dig a i + cy a b i + dig b i by omega] at e1 e2
          rw [u_nat (by omega : dig a i < 18446744073709551616), u_nat (by omega : dig b i < 18446744073709551616), u_add (by omega), u_add (by omega), sh32, u3_cut, e1, e2, IntWalk.i64_in ((i : Int) + 1) (by omega)]
          simp only [fin_all, imp_self, implies_true, true_and, and_true]
          refine ⟨by simp, fun j hj => ?_⟩
          rw [dig_mod_if, dig_mod_if, hX]
          by_cases hji : j = i
          · rw [if_pos hji, if_pos (by omega), hji]; simp only [leL, le, and_self]
          · rw [if_neg hji]; simp only [show (j < i + 1) ↔ (j < i) from by omega]; simp only [leL, le, and_self]
        · have hd1 := dig_lt a i
          have hd2 : dig b i = 0 := dig_big hb1 (by omega)
          have hcy := cy_le a b i
          have e1 := add_dig a b i
          have e2 := add_cy a b i
          rw [hd2, Nat.add_zero] at e1 e2
          rw [u_nat (by omega : dig a i < 18446744073709551616), u_add (by omega), sh32, u3_cut, e1, e2, IntWalk.i64_in ((i : Int) + 1) (by omega)]
          simp only [fin_all, imp_self, implies_true, true_and, and_true]
          refine ⟨by simp, fun j hj => ?_⟩
          rw [dig_mod_if, dig_mod_if, hX]
          by_cases hji : j = i
          · rw [if_pos hji, if_pos (by omega), hji]; simp only [leL, le, and_self]
          · rw [if_neg hji]; simp only [show (j < i + 1) ↔ (j < i) from by omega]; simp only [leL, le, and_self]
        · obtain rfl : i = n := by omega
          refine ⟨⟨by omega, by omega⟩, by omega, ?_⟩
          have hXN : X < 4294967296 ^ N := by
            have h2 : b < 4294967296 ^ i := Nat.lt_of_lt_of_le hb1 (Nat.pow_le_pow_right (by decide) hmn)
            rw [hX, hNn, pw_succ]; omega
          have htop : IntKind.u32.wrap ((cy a b i : Nat) : Int) = ((dig X i : Nat) : Int) := by
            have e1 := add_dig a b i
            have hcy := cy_le a b i
            rw [dig_big ha1 (Nat.le_refl _), dig_big hb1 hmn] at e1
            rw [u3_cut, hX, ← e1]
            omega
          rw [htop]
          rw [← hX] at h
          refine Loop.keep [0] Nat (fun j => [(0, .own 0 0 j 1)]) (fun _ => [(0, .own false 1 N (fun k => [.int .u32 (dig X k)]))]) [] (fun j => j ≤ N ∧ X < 4294967296 ^ j) (fun j => j) ?_ ?_
          · refine ⟨N, ⟨Nat.le_refl _, hXN⟩, ?_⟩
            dsimp only [go_sem, reduceIte]
            simp only [fin_all, imp_self, implies_true, true_and, and_true]
            refine ⟨by decide, by decide, fun j hj => ?_⟩
            split
            · rename_i e; rw [e]; exact ⟨⟨rfl, rfl⟩, trivial⟩
            · rw [dig_mod (by omega)]; exact ⟨⟨rfl, rfl⟩, trivial⟩
          · rintro j ⟨hj, haj⟩
            dsimp only [Int.toNat_natCast, go_sem, reduceIte]
            simp only [t_all, forall_const, ne_eq, implies_true, Nat.reduceAdd, Nat.reduceLeDiff, reduceCtorEq, Nat.reduceEqDiff]
            refine ⟨fun hlt => ?_, fun hlt => ?_, fun hb => ?_, fun hb => ?_⟩
            · rw [w_pred (by omega) (by omega)]; omega
            · rw [w_pred (by omega) (by omega)]; omega
            · rw [Bool.and_eq_true, decide_eq_true_eq, decide_eq_true_eq] at hb
              obtain ⟨h1, h2⟩ := hb
              rw [w_pred (by omega) (by omega), Int.toNat_natCast] at h2
              refine ⟨by rw [w_pred (by omega) (by omega)]; omega, j - 1, ⟨by omega, ?_⟩, by omega, ?_⟩
              · obtain ⟨m, rfl⟩ : ∃ m, j = m + 1 := ⟨j - 1, by omega⟩
                exact lt_trim haj (by simp at h2; exact_mod_cast h2)
              · rw [w_pred (by omega) (by omega)]
                simp only [fin_all, imp_self, implies_true, true_and, and_true] <;> simp [leL, le]
            · have e : nl X = j := by
                refine nl_trim haj ?_
                rw [Bool.and_eq_false_iff, decide_eq_false_iff_not, decide_eq_false_iff_not] at hb
                rcases Nat.eq_zero_or_pos j with h0 | h0
                · exact .inl h0
                · refine .inr fun hh => hb.elim (fun h => h (by omega)) fun h => h ?_
                  rw [w_pred h0 (by omega), Int.toNat_natCast, hh]; rfl
              subst e
              exact ans_nat h rfl rfl rfl fun j hj => rfl
  · exact h.1.elim
end Go.Proofs.Ytmgfmkbniaepcaa
set_option linter.all false
namespace Go.Proofs.Ytmgfmkbniaepcaa
open Go Go.Vx
set_option maxRecDepth 100000
set_option maxHeartbeats 4000000
def v84 : VF := { ntmps := 68, res := [.tmp 4], body :=
 (.seq (.region [u1 4 .mov [.cn .nil]])
 (.seq (.region [u1 12 .mov [.tm 0],
 u1 13 .len [.tm 12],
 u1 14 .mov [.tm 1],
 u1 15 .len [.tm 14],
 u1 16 (.ari .add) [.tm 13, .tm 15],
 u1 17 (.make 1 4 [(.int .u32 0)]) [.tm 16, .tm 16],
 u1 5 .mov [.tm 17]])
 (.seq (.seq (.region [u1 18 .mov [.tm 0],
 u1 19 .len [.tm 18],
 u1 20 .mov [.cn (.int .i64 0)]])
 (.block 0 (.loop (.seq (.region [u1 21 (.cmp .lss) [.tm 20, .tm 19]])
 (.seq (.cond (.tm 21) .skip
  (.exit 0))
 (.seq (.block 1 (.seq (.region [u1 22 .mov [.tm 20],
 u1 23 (.idxAddr 1) [.tm 18, .tm 20],
 u1 24 (.load false 1) [.tm 23],
 u1 6 .mov [.tm 22],
 u1 7 .mov [.tm 24]])
 (.seq (.region [u1 8 .mov [.cn (.int .u64 0)]])
 (.seq (.seq (.region [u1 25 .mov [.tm 1],
 u1 26 .len [.tm 25],
 u1 27 .mov [.cn (.int .i64 0)]])
 (.block 2 (.loop (.seq (.region [u1 28 (.cmp .lss) [.tm 27, .tm 26]])
 (.seq (.cond (.tm 28) .skip
  (.exit 2))
 (.seq (.block 3 (.seq (.region [u1 29 .mov [.tm 27],
 u1 30 (.idxAddr 1) [.tm 25, .tm 27],
 u1 31 (.load false 1) [.tm 30],
 u1 9 .mov [.tm 29],
 u1 10 .mov [.tm 31]])
 (.seq (.region [u1 32 .mov [.tm 5],
 u1 33 .mov [.tm 6],
 u1 34 .mov [.tm 9],
 u1 35 (.ari .add) [.tm 33, .tm 34],
 u1 36 (.idxAddr 1) [.tm 32, .tm 35],
 u1 37 (.load false 1) [.tm 36],
 u1 38 (.conv .u64) [.tm 37],
 u1 39 .mov [.tm 7],
 u1 40 (.conv .u64) [.tm 39],
 u1 41 .mov [.tm 10],
 u1 42 (.conv .u64) [.tm 41],
 u1 43 (.ari .mul) [.tm 40, .tm 42],
 u1 44 (.ari .add) [.tm 38, .tm 43],
 u1 45 .mov [.tm 8],
 u1 46 (.ari .add) [.tm 44, .tm 45],
 u1 11 .mov [.tm 46]])
 (.region [u1 47 .mov [.tm 5],
 u1 48 .mov [.tm 6],
 u1 49 .mov [.tm 9],
 u1 50 (.ari .add) [.tm 48, .tm 49],
 u1 51 .mov [.tm 11],
 u1 52 (.conv .u32) [.tm 51],
 u1 53 .mov [.tm 11],
 u1 54 .shr [.tm 53, .cn (.int .u64 32)],
 u1 55 (.idxAddr 1) [.tm 47, .tm 50],
 u0 (.store 1) [.tm 55, .tm 52],
 u1 8 .mov [.tm 54]]))))
 (.region [u1 56 (.ari .add) [.tm 27, .cn (.int .i64 1)],
 u1 27 .mov [.tm 56]])))))))
 (.region [u1 57 .mov [.tm 5],
 u1 58 .mov [.tm 6],
 u1 59 .mov [.tm 1],
 u1 60 .len [.tm 59],
 u1 61 (.ari .add) [.tm 58, .tm 60],
 u1 62 .mov [.tm 8],
 u1 63 (.conv .u32) [.tm 62],
 u1 64 (.idxAddr 1) [.tm 57, .tm 61],
 u0 (.store 1) [.tm 64, .tm 63]])))))
 (.region [u1 65 (.ari .add) [.tm 20, .cn (.int .i64 1)],
 u1 20 .mov [.tm 65]])))))))
 (.seq (.region [u1 66 .mov [.tm 5],
 u1 67 (.call 92) [.tm 66],
 u1 4 .mov [.tm 67]])
 .ret)))) }
theorem v84_is : vfunc Try.prog Try.f84 = some v84 := by kernel_rfl
def v91 : VF := { ntmps := 58, res := [.tmp 4], body :=
 (.seq (.region [u1 4 .mov [.cn .nil]])
 (.seq (.seq (.region [u1 11 .mov [.tm 0],
 u1 12 .len [.tm 11],
 u1 13 (.cmp .eql) [.tm 12, .cn (.int .i64 0)]])
 (.cond (.tm 13) (.seq (.region [u1 4 .mov [.cn .nil]])
 .ret)
  .skip))
 (.seq (.region [u1 14 .mov [.tm 1],
 u1 15 .quo [.tm 14, .cn (.int .i64 32)],
 u1 16 .mov [.tm 1],
 u1 17 .rem [.tm 16, .cn (.int .i64 32)],
 u1 18 (.conv .u64) [.tm 17],
 u1 5 .mov [.tm 15],
 u1 6 .mov [.tm 18]])
 (.seq (.region [u1 19 .mov [.tm 0],
 u1 20 .len [.tm 19],
 u1 21 .mov [.tm 5],
 u1 22 (.ari .add) [.tm 20, .tm 21],
 u1 23 (.ari .add) [.tm 22, .cn (.int .i64 1)],
 u1 24 (.make 1 4 [(.int .u32 0)]) [.tm 23, .tm 23],
 u1 7 .mov [.tm 24]])
 (.seq (.seq (.region [u1 25 .mov [.tm 0],
 u1 26 .len [.tm 25],
 u1 27 .mov [.cn (.int .i64 0)]])
 (.block 0 (.loop (.seq (.region [u1 28 (.cmp .lss) [.tm 27, .tm 26]])
 (.seq (.cond (.tm 28) .skip
  (.exit 0))
 (.seq (.block 1 (.seq (.region [u1 29 .mov [.tm 27],
 u1 30 (.idxAddr 1) [.tm 25, .tm 27],
 u1 31 (.load false 1) [.tm 30],
 u1 8 .mov [.tm 29],
 u1 9 .mov [.tm 31]])
 (.seq (.region [u1 32 .mov [.tm 9],
 u1 33 (.conv .u64) [.tm 32],
 u1 34 .mov [.tm 6],
 u1 35 .shl [.tm 33, .tm 34],
 u1 10 .mov [.tm 35]])
 (.seq (.region [u1 36 .mov [.tm 7],
 u1 37 .mov [.tm 8],
 u1 38 .mov [.tm 5],
 u1 39 (.ari .add) [.tm 37, .tm 38],
 u1 40 (.idxAddr 1) [.tm 36, .tm 39],
 u1 41 (.load false 1) [.tm 40],
 u1 42 .mov [.tm 10],
 u1 43 (.conv .u32) [.tm 42],
 u1 44 (.bit .or) [.tm 41, .tm 43],
 u1 45 (.idxAddr 1) [.tm 36, .tm 39],
 u0 (.store 1) [.tm 45, .tm 44]])
 (.region [u1 46 .mov [.tm 7],
 u1 47 .mov [.tm 8],
 u1 48 .mov [.tm 5],
 u1 49 (.ari .add) [.tm 47, .tm 48],
 u1 50 (.ari .add) [.tm 49, .cn (.int .i64 1)],
 u1 51 .mov [.tm 10],
 u1 52 .shr [.tm 51, .cn (.int .u64 32)],
 u1 53 (.conv .u32) [.tm 52],
 u1 54 (.idxAddr 1) [.tm 46, .tm 50],
 u0 (.store 1) [.tm 54, .tm 53]])))))
 (.region [u1 55 (.ari .add) [.tm 27, .cn (.int .i64 1)],
 u1 27 .mov [.tm 55]])))))))
 (.seq (.region [u1 56 .mov [.tm 7],
 u1 57 (.call 92) [.tm 56],
 u1 4 .mov [.tm 57]])
 .ret)))))) }
theorem v91_is : vfunc Try.prog Try.f91 = some v91 := by kernel_rfl
def v90 : VF := { ntmps := 64, res := [.tmp 4], body :=
 (.seq (.region [u1 4 .mov [.cn .nil]])
 (.seq (.region [u1 10 .mov [.tm 1],
 u1 11 .quo [.tm 10, .cn (.int .i64 32)],
 u1 12 .mov [.tm 1],
 u1 13 .rem [.tm 12, .cn (.int .i64 32)],
 u1 14 (.conv .u64) [.tm 13],
 u1 5 .mov [.tm 11],
 u1 6 .mov [.tm 14]])
 (.seq (.seq (.region [u1 15 .mov [.tm 5],
 u1 16 .mov [.tm 0],
 u1 17 .len [.tm 16],
 u1 18 (.cmp .geq) [.tm 15, .tm 17]])
 (.cond (.tm 18) (.seq (.region [u1 4 .mov [.cn .nil]])
 .ret)
  .skip))
 (.seq (.region [u1 19 .mov [.tm 0],
 u1 20 .len [.tm 19],
 u1 21 .mov [.tm 5],
 u1 22 (.ari .sub) [.tm 20, .tm 21],
 u1 23 (.make 1 4 [(.int .u32 0)]) [.tm 22, .tm 22],
 u1 7 .mov [.tm 23]])
 (.seq (.seq (.region [u1 24 .mov [.tm 7],
 u1 25 .len [.tm 24],
 u1 26 .mov [.cn (.int .i64 0)]])
 (.block 0 (.loop (.seq (.region [u1 27 (.cmp .lss) [.tm 26, .tm 25]])
 (.seq (.cond (.tm 27) .skip
  (.exit 0))
 (.seq (.block 1 (.seq (.region [u1 28 .mov [.tm 26],
 u1 8 .mov [.tm 28]])
 (.seq (.region [u1 29 .mov [.tm 0],
 u1 30 .mov [.tm 8],
 u1 31 .mov [.tm 5],
 u1 32 (.ari .add) [.tm 30, .tm 31],
 u1 33 (.idxAddr 1) [.tm 29, .tm 32],
 u1 34 (.load false 1) [.tm 33],
 u1 35 (.conv .u64) [.tm 34],
 u1 9 .mov [.tm 35]])
 (.seq (.seq (.region [u1 36 .mov [.tm 8],
 u1 37 .mov [.tm 5],
 u1 38 (.ari .add) [.tm 36, .tm 37],
 u1 39 (.ari .add) [.tm 38, .cn (.int .i64 1)],
 u1 40 .mov [.tm 0],
 u1 41 .len [.tm 40],
 u1 42 (.cmp .lss) [.tm 39, .tm 41]])
 (.cond (.tm 42) (.region [u1 43 .mov [.tm 9],
 u1 44 .mov [.tm 0],
 u1 45 .mov [.tm 8],
 u1 46 .mov [.tm 5],
 u1 47 (.ari .add) [.tm 45, .tm 46],
 u1 48 (.ari .add) [.tm 47, .cn (.int .i64 1)],
 u1 49 (.idxAddr 1) [.tm 44, .tm 48],
 u1 50 (.load false 1) [.tm 49],
 u1 51 (.conv .u64) [.tm 50],
 u1 52 .shl [.tm 51, .cn (.int .u64 32)],
 u1 53 (.bit .or) [.tm 43, .tm 52],
 u1 9 .mov [.tm 53]])
  .skip))
 (.region [u1 54 .mov [.tm 7],
 u1 55 .mov [.tm 8],
 u1 56 .mov [.tm 9],
 u1 57 .mov [.tm 6],
 u1 58 .shr [.tm 56, .tm 57],
 u1 59 (.conv .u32) [.tm 58],
 u1 60 (.idxAddr 1) [.tm 54, .tm 55],
 u0 (.store 1) [.tm 60, .tm 59]])))))
 (.region [u1 61 (.ari .add) [.tm 26, .cn (.int .i64 1)],
 u1 26 .mov [.tm 61]])))))))
 (.seq (.region [u1 62 .mov [.tm 7],
 u1 63 (.call 92) [.tm 62],
 u1 4 .mov [.tm 63]])
 .ret)))))) }
theorem v90_is : vfunc Try.prog Try.f90 = some v90 := by kernel_rfl
theorem setD_end {V j x : Nat} (hV : V < 4294967296 ^ j) : setD V j x = V + x * 4294967296 ^ j := by
  have := setD_add V j x
  rw [dig_big hV (Nat.le_refl _)] at this
  omega
def wtimC : Ctr := { alias := false, of := fun l => match l with
  | [.vs _ _ n sz get, .vs _ _ m sz' get'] => .ex Nat fun a => .ex Nat fun b => .pre (padP a n sz get ∧ padP b m sz' get' ∧ n + m ≤ 99999) (.fin (natS false (a * b)) [])
  | _ => noC }
theorem wtimes_ok : wtimC.ok Try.prog 84 := by
  refine contract Try.func84 v84_is WD1_ok 300 wtimC fun args k h => ?_
  simp only [wtimC] at h
  split at h
  · rename_i t1 z1 n sz get t2 z2 m sz' get'
    obtain ⟨a, b, ⟨⟨rfl, hn, ha, hg⟩, ⟨rfl, hm, hb, hg'⟩, hnm⟩, h⟩ := h
    refine ⟨[.vs t1 z1 n 1 (fun k => [.int .u32 (dig a k)]), .vs t2 z2 m 1 (fun k => [.int .u32 (dig b k)])], ⟨by simpa [le] using hg, by simpa [le] using hg', trivial⟩, ?_⟩
    dsimp only [v84, WD1_ct92, WD1_fn92, v92, go_sem, reduceIte]
    simp only [t_all, forall_const, ne_eq, implies_true, Nat.reduceAdd, Nat.reduceLeDiff, reduceCtorEq, Nat.reduceEqDiff]
    obtain ⟨N, hNn⟩ : ∃ N, N = n + m := ⟨_, rfl⟩
    obtain ⟨X, hX⟩ : ∃ X, X = a * b := ⟨_, rfl⟩
    have en : IntKind.i64.wrap ((n : Int) + (m : Int)) = (N : Int) := by rw [hNn, IntWalk.i64_in _ (by omega)]; omega
    rw [en]
    simp only [Int.toNat_natCast]
    refine ⟨⟨by decide, by omega, by omega, by unfold capOk; omega⟩, ?_⟩
    refine Loop.keep [0, 0, 3, 12, 0] Nat (fun i => [(20, .int .i64 i)]) (fun i => [(0, .own false 1 N (fun k => [.int .u32 (dig ((a % 4294967296 ^ i) * b) k)]))]) [] (fun i => i ≤ n) (fun i => n - i) ?_ ?_
    · refine ⟨0, by omega, ?_⟩
      dsimp only [go_sem, reduceIte]
      simp only [fin_all, imp_self, implies_true, true_and, and_true]
      simp [Nat.mod_one, dig_zero, leL, le]
    · rintro i hi
      dsimp only [WD1_ct92, WD1_fn92, v92, Int.toNat_natCast, go_sem, reduceIte]
      simp only [t_all, forall_const, ne_eq, implies_true, Nat.reduceAdd, Nat.reduceLeDiff, reduceCtorEq, Nat.reduceEqDiff]
      have hrow : ∀ i, (a % 4294967296 ^ i) * b < 4294967296 ^ (i + m) := fun i => by
        rw [Nat.pow_add]
        exact Nat.mul_lt_mul_of_lt_of_le (Nat.mod_lt _ (pw_pos i)) (Nat.le_of_lt hb) (pw_pos m)
      refine ⟨fun hlt => ?_, fun hge => ?_⟩
      · refine ⟨⟨by omega, by omega⟩, ?_⟩
        refine Loop.keep [0, 0, 3, 0, 0, 10, 0, 0, 4, 0] (Nat × Nat × Nat) (fun x => [(8, .int .u64 x.2.2), (27, .int .i64 x.1)]) (fun x => [(0, .own false 1 N (fun k => [.int .u32 (dig x.2.1 k)]))]) [] (fun x => x.1 ≤ m ∧ x.2.2 < 4294967296 ∧ x.2.1 < 4294967296 ^ (i + m) ∧ x.2.1 + x.2.2 * 4294967296 ^ (i + x.1) = (a % 4294967296 ^ i) * b + dig a i * (b % 4294967296 ^ x.1) * 4294967296 ^ i) (fun x => m - x.1) ?_ ?_
        · refine ⟨(0, (a % 4294967296 ^ i) * b, 0), ⟨by simp only; omega, by simp only; omega, hrow i, by simp [Nat.mod_one]⟩, ?_⟩
          dsimp only [go_sem, reduceIte]
          simp only [fin_all, imp_self, implies_true, true_and, and_true]
          try simp [leL, le]
        · rintro ⟨t, V, c⟩ ⟨ht, hc, hV, he⟩
          dsimp only at ht hc hV he
          dsimp only [Int.toNat_natCast, go_sem, reduceIte]
          simp only [t_all, forall_const, ne_eq, implies_true, Nat.reduceAdd, Nat.reduceLeDiff, reduceCtorEq, Nat.reduceEqDiff]
          refine ⟨fun hlt2 => ?_, fun hge2 => ?_⟩
          · have w1 : IntKind.i64.wrap ((i : Int) + (t : Int)) = ((i + t : Nat) : Int) := by rw [IntWalk.i64_in _ (by omega)]; simp
            rw [w1]
            simp only [Int.toNat_natCast]
            have hd0 := dig_lt V (i + t)
            have hd1 := dig_lt a i
            have hd2 := dig_lt b t
            obtain ⟨hb1, hb2⟩ := mul_bound hd0 (dig_lt a i) (dig_lt b t) hc
            have hs := mul_step he
            refine ⟨⟨by omega, by omega⟩, ⟨by omega, by omega⟩, by omega, by decide, ⟨by omega, by omega⟩, by omega,
              (t + 1, setD V (i + t) ((dig V (i + t) + dig a i * dig b t + c) % 4294967296), (dig V (i + t) + dig a i * dig b t + c) / 4294967296), ⟨by simp only; omega, hb2, setD_lt hV (Nat.mod_lt _ (by decide)) (by omega), hs⟩, by simp only; omega, ?_⟩
            rw [u_nat (by omega : dig V (i + t) < 18446744073709551616), u_nat (by omega : dig a i < 18446744073709551616), u_nat (by omega : dig b t < 18446744073709551616), u_mul (by omega), u_add (by omega), u_add (by omega), u3_cut, sh32, IntWalk.i64_in ((t : Int) + 1) (by omega)]
            simp only [fin_all, imp_self, implies_true, true_and, and_true]
            refine ⟨by simp, fun j hj => ?_⟩
            rw [dig_setD (Nat.mod_lt _ (by decide))]
            split <;> simp only [leL, le, and_self]
          · obtain rfl : t = m := by omega
            have w1 : IntKind.i64.wrap ((i : Int) + (t : Int)) = ((i + t : Nat) : Int) := by rw [IntWalk.i64_in _ (by omega)]; simp
            rw [w1]
            simp only [Int.toNat_natCast]
            rw [Nat.mod_eq_of_lt hb] at he
            have hrow2 : (a % 4294967296 ^ (i + 1)) * b = setD V (i + t) c := by
              rw [setD_end hV, he, mod_pw, Nat.add_mul, Nat.mul_assoc, Nat.mul_comm (4294967296 ^ i)]
            refine ⟨⟨by omega, by omega⟩, by omega, i + 1, by omega, by omega, ?_⟩
            rw [u3_nat hc, hrow2, IntWalk.i64_in ((i : Int) + 1) (by omega)]
            simp only [fin_all, imp_self, implies_true, true_and, and_true]
            refine ⟨by simp, fun j hj => ?_⟩
            rw [dig_setD hc]
            split <;> simp only [leL, le, and_self]
      · obtain rfl : i = n := by omega
        have hmi : a % 4294967296 ^ i = a := Nat.mod_eq_of_lt ha
        have hXN : X < 4294967296 ^ N := by
          have := hrow i
          rw [hmi] at this
          rw [hX, hNn]; exact this
        rw [hmi, ← hX]
        rw [← hX] at h
        refine Loop.keep [0] Nat (fun j => [(0, .own 0 0 j 1)]) (fun _ => [(0, .own false 1 N (fun k => [.int .u32 (dig X k)]))]) [] (fun j => j ≤ N ∧ X < 4294967296 ^ j) (fun j => j) ?_ ?_
        · refine ⟨N, ⟨Nat.le_refl _, hXN⟩, ?_⟩
          dsimp only [go_sem, reduceIte]
          simp only [fin_all, imp_self, implies_true, true_and, and_true]
          simp [leL, le]
        · rintro j ⟨hj, haj⟩
          dsimp only [Int.toNat_natCast, go_sem, reduceIte]
          simp only [t_all, forall_const, ne_eq, implies_true, Nat.reduceAdd, Nat.reduceLeDiff, reduceCtorEq, Nat.reduceEqDiff]
          refine ⟨fun hlt => ?_, fun hlt => ?_, fun hb => ?_, fun hb => ?_⟩
          · rw [w_pred (by omega) (by omega)]; omega
          · rw [w_pred (by omega) (by omega)]; omega
          · rw [Bool.and_eq_true, decide_eq_true_eq, decide_eq_true_eq] at hb
            obtain ⟨h1, h2⟩ := hb
            rw [w_pred (by omega) (by omega), Int.toNat_natCast] at h2
            refine ⟨by rw [w_pred (by omega) (by omega)]; omega, j - 1, ⟨by omega, ?_⟩, by omega, ?_⟩
            · obtain ⟨m, rfl⟩ : ∃ m, j = m + 1 := ⟨j - 1, by omega⟩
              exact lt_trim haj (by simp at h2; exact_mod_cast h2)
            · rw [w_pred (by omega) (by omega)]
              simp only [fin_all, imp_self, implies_true, true_and, and_true] <;> simp [leL, le]
          · have e : nl X = j := by
              refine nl_trim haj ?_
              rw [Bool.and_eq_false_iff, decide_eq_false_iff_not, decide_eq_false_iff_not] at hb
              rcases Nat.eq_zero_or_pos j with h0 | h0
              · exact .inl h0
              · refine .inr fun hh => hb.elim (fun h => h (by omega)) fun h => h ?_
                rw [w_pred h0 (by omega), Int.toNat_natCast, hh]; rfl
            subst e
            exact ans_nat h rfl rfl rfl fun j hj => rfl
  · exact h.1.elim
def wupC : Ctr := { alias := false, of := fun l => match l with
  | [.vs _ _ n sz get, .int .i64 s] => .ex Nat fun a => .ex Nat fun d => .pre (padP a n sz get ∧ n = nl a ∧ n ≤ 9999 ∧ s = d ∧ d ≤ 20000) (.all Bool fun z => .fin (natS (z && decide (a * 2 ^ d = 0)) (a * 2 ^ d)) [])
  | _ => noC }
def wdownC : Ctr := { alias := false, of := fun l => match l with
  | [.vs _ _ n sz get, .int .i64 s] => .ex Nat fun a => .ex Nat fun d => .pre (padP a n sz get ∧ n ≤ 9999 ∧ s = d ∧ d ≤ 20000) (.all Bool fun z => .fin (natS (z && decide (a / 2 ^ d = 0)) (a / 2 ^ d)) [])
  | _ => noC }
theorem ans_nil0 {k : SV → List HO → Prop} {al : Bool} {hp : List HO} (h : k (natS true 0) []) : answers al k .nil hp :=
  ans_le h (by show le 0 0 (view true hp (viewN true hp 2) .nil) _; unfold view; simp [natS, nl_0, le]) (fun _ => by simp [natS, freshS, freshL])
theorem or_hi {x y : Nat} (hx : x < 4294967296) (hy : y < 4294967296) : bitI .or .u64 (x : Int) (IntKind.u64.wrap ((y : Int) * 2 ^ min (Int.toNat 32) 64)) = ((x + y * 4294967296 : Nat) : Int) := by
  have e : IntKind.u64.wrap ((y : Int) * 2 ^ min (Int.toNat 32) 64) = ((y * 4294967296 : Nat) : Int) := shl_nat (s := 32) (by decide) (by omega)
  rw [e, show bitI .or .u64 (x : Int) ((y * 4294967296 : Nat) : Int) = ((x ||| y * 4294967296 : Nat) : Int) from or_nat6 (by omega) (by omega)]
  have := Nat.two_pow_add_eq_or_of_lt (i := 32) hx y
  rw [Nat.or_comm, Nat.mul_comm, show (4294967296 : Nat) = 2 ^ 32 from rfl, ← this, Nat.add_comm]
theorem mod_div_word {y r : Nat} (h : r < 32) : y % (4294967296 * 4294967296) / 2 ^ r % 4294967296 = y / 2 ^ r % 4294967296 := by
  have e : (4294967296 * 4294967296 : Nat) = 2 ^ r * (4294967296 * 2 ^ (32 - r)) := by
    rw [show (4294967296 : Nat) = 2 ^ 32 from rfl, ← Nat.pow_add, ← Nat.pow_add, ← Nat.pow_add]; congr 1; omega
  rw [e, Nat.mod_mul_right_div_self, Nat.mod_mul_right_mod]
theorem down_dig {a d w r : Nat} (hw : w = d / 32) (hr : r = d % 32) (i : Nat) : dig (a / 2 ^ d) i = (dig a (i + w) + dig a (i + w + 1) * 4294967296) / 2 ^ r % 4294967296 := by
  have e : dig a (i + w) + dig a (i + w + 1) * 4294967296 = a / 4294967296 ^ (i + w) % (4294967296 * 4294967296) := by
    unfold dig
    rw [pw_succ, ← Nat.div_div_eq_div_mul]
    generalize a / 4294967296 ^ (i + w) = y
    omega
  rw [e, mod_div_word (by omega)]
  unfold dig
  have e2 : 2 ^ d * 4294967296 ^ i = 4294967296 ^ (i + w) * 2 ^ r := by
    rw [pw_two, pw_two, ← Nat.pow_add, ← Nat.pow_add]; congr 1; omega
  rw [Nat.div_div_eq_div_mul, Nat.div_div_eq_div_mul, e2]
theorem down_lt {a d w n N : Nat} (hw : w = d / 32) (hN : N = n - w) (hwn : w < n) (ha : a < 4294967296 ^ n) : a / 2 ^ d < 4294967296 ^ N := by
  rw [Nat.div_lt_iff_lt_mul (p2_pos d)]
  refine Nat.lt_of_lt_of_le ha ?_
  rw [pw_two, pw_two, ← Nat.pow_add]
  exact Nat.pow_le_pow_right (by decide) (by omega)
theorem two_split {d w r : Nat} (hw : w = d / 32) (hr : r = d % 32) : 2 ^ d = 2 ^ r * 4294967296 ^ w := by
  rw [pw_two, ← Nat.pow_add]; congr 1; omega
theorem low_mul (x : Nat) {r : Nat} (hr : r < 32) : x * 2 ^ r % 4294967296 = 2 ^ r * (x % 2 ^ (32 - r)) := by
  have e : (4294967296 : Nat) = 2 ^ r * 2 ^ (32 - r) := by
    rw [← Nat.pow_add, show r + (32 - r) = 32 by omega]
  rw [Nat.mul_comm x, e, Nat.mul_mod_mul_left]
theorem up_step {a d w r : Nat} (hw : w = d / 32) (hr : r = d % 32) (i : Nat) :
    (dig ((a % 4294967296 ^ i) * 2 ^ d) (i + w) ||| dig a i * 2 ^ r % 4294967296) < 4294967296 ∧ (a % 4294967296 ^ (i + 1)) * 2 ^ d = setD (setD ((a % 4294967296 ^ i) * 2 ^ d) (i + w) (dig ((a % 4294967296 ^ i) * 2 ^ d) (i + w) ||| dig a i * 2 ^ r % 4294967296)) (i + w + 1) (dig a i * 2 ^ r / 4294967296) := by
  have hr32 : r < 32 := by omega
  have hb : (dig ((a % 4294967296 ^ i) * 2 ^ d) (i + w) ||| dig a i * 2 ^ r % 4294967296) < 4294967296 := Nat.or_lt_two_pow (n := 32) (dig_lt _ _) (Nat.mod_lt _ (by decide))
  refine ⟨hb, ?_⟩
  have hY : (a % 4294967296 ^ i) * 2 ^ d < 4294967296 ^ (i + w) * 2 ^ r := by
    rw [two_split hw hr, ← Nat.mul_assoc, Nat.mul_right_comm, Nat.pow_add]
    exact Nat.mul_lt_mul_of_pos_right (Nat.mul_lt_mul_of_pos_right (Nat.mod_lt _ (pw_pos i)) (pw_pos w)) (p2_pos r)
  have h2r : 2 ^ r < 4294967296 := Nat.pow_lt_pow_right (a := 2) (n := 32) (by decide) hr32
  have hYl : (a % 4294967296 ^ i) * 2 ^ d < 4294967296 ^ (i + w + 1) := by
    rw [pw_succ]
    exact Nat.lt_of_lt_of_le hY (Nat.mul_le_mul_left _ (Nat.le_of_lt h2r))
  have hd0 : dig ((a % 4294967296 ^ i) * 2 ^ d) (i + w) < 2 ^ r := by
    unfold dig
    refine Nat.lt_of_le_of_lt (Nat.mod_le _ _) ?_
    rw [Nat.div_lt_iff_lt_mul (pw_pos _), Nat.mul_comm (2 ^ r)]
    exact hY
  have hor : (dig ((a % 4294967296 ^ i) * 2 ^ d) (i + w) ||| dig a i * 2 ^ r % 4294967296) = dig ((a % 4294967296 ^ i) * 2 ^ d) (i + w) + dig a i * 2 ^ r % 4294967296 := by
    rw [low_mul _ hr32, Nat.or_comm, ← Nat.two_pow_add_eq_or_of_lt hd0, Nat.add_comm]
  rw [setD_end (setD_lt hYl hb (by omega))]
  have e1 := setD_add ((a % 4294967296 ^ i) * 2 ^ d) (i + w) (dig ((a % 4294967296 ^ i) * 2 ^ d) (i + w) ||| dig a i * 2 ^ r % 4294967296)
  rw [hor, Nat.add_mul] at e1
  rw [hor]
  have e2 : (a % 4294967296 ^ (i + 1)) * 2 ^ d = (a % 4294967296 ^ i) * 2 ^ d + dig a i * 2 ^ r * 4294967296 ^ (i + w) := by
    rw [mod_pw, Nat.add_mul, Nat.pow_add, two_split hw hr]
    congr 1
    simp only [Nat.mul_assoc, Nat.mul_left_comm, Nat.mul_comm]
  have e3 : dig a i * 2 ^ r * 4294967296 ^ (i + w) = dig a i * 2 ^ r % 4294967296 * 4294967296 ^ (i + w) + dig a i * 2 ^ r / 4294967296 * 4294967296 ^ (i + w + 1) := by
    rw [pw_succ, Nat.mul_comm (4294967296 ^ (i + w)) 4294967296, ← Nat.mul_assoc, ← Nat.add_mul]
    congr 1
    omega
  rw [e2, e3]
  omega
theorem shl_r {x : Nat} (hx : x < 4294967296) {r : Nat} (h : r < 32) : IntKind.u64.wrap ((x : Int) * 2 ^ min (Int.toNat (IntKind.u64.wrap (r : Int))) 64) = ((x * 2 ^ r : Nat) : Int) := by
  have h2r : 2 ^ r < 4294967296 := Nat.pow_lt_pow_right (a := 2) (n := 32) (by decide) h
  have : x * 2 ^ r ≤ 4294967295 * 4294967295 := Nat.mul_le_mul (by omega) (by omega)
  rw [u_nat (by omega), Int.toNat_natCast]; exact shl_nat (by omega) (by omega)
theorem bI3_or {x y : Nat} (hx : x < 4294967296) (hy : y < 4294967296) : bitI .or .u32 (x : Int) (y : Int) = ((x ||| y : Nat) : Int) := or_nat hx hy
theorem shr_r (x : Nat) {r : Nat} (h : r < 32) : (x : Int).fdiv (2 ^ min (Int.toNat (IntKind.u64.wrap (r : Int))) 64) = ((x / 2 ^ r : Nat) : Int) := by
  rw [u_nat (by omega), Int.toNat_natCast]; exact shr_nat (by omega)
theorem wdown_ok : wdownC.ok Try.prog 90 := by
  refine contract Try.func90 v90_is WD1_ok 300 wdownC fun args k h => ?_
  simp only [wdownC] at h
  split at h
  · rename_i t1 z1 n sz get s
    obtain ⟨a, d, ⟨⟨rfl, hn, ha, hg⟩, hn9, rfl, hd⟩, h⟩ := h
    refine ⟨[.vs t1 z1 n 1 (fun k => [.int .u32 (dig a k)]), .int .i64 d], ⟨by simpa [le] using hg, ⟨rfl, rfl⟩, trivial⟩, ?_⟩
    dsimp only [v90, WD1_ct92, WD1_fn92, v92, go_sem, reduceIte]
    simp only [t_all, forall_const, ne_eq, implies_true, Nat.reduceAdd, Nat.reduceLeDiff, reduceCtorEq, Nat.reduceEqDiff]
    obtain ⟨w, hw⟩ : ∃ w, w = d / 32 := ⟨_, rfl⟩
    obtain ⟨r, hr⟩ : ∃ r, r = d % 32 := ⟨_, rfl⟩
    have hr32 : r < 32 := by rw [hr]; exact Nat.mod_lt _ (by decide)
    have ew : IntKind.i64.wrap ((d : Int).tdiv 32) = (w : Int) := by
      have : (d : Int).tdiv 32 = ((d / 32 : Nat) : Int) := IntWalk.up_tdiv (y := 32) rfl rfl
      rw [this, hw, IntWalk.i64_in _ (by omega)]
    have er : (d : Int).tmod 32 = (r : Int) := by rw [hr]; exact IntWalk.up_tmod (y := 32) rfl rfl
    obtain ⟨X, hX⟩ : ∃ X, X = a / 2 ^ d := ⟨_, rfl⟩
    rw [ew, er]
    refine ⟨by decide, by decide, fun hc => ?_, fun hc => ?_⟩
    · have : a / 2 ^ d = 0 := by
        rw [Nat.div_eq_of_lt]
        refine Nat.lt_of_lt_of_le ha ?_
        rw [pw_two]
        exact Nat.pow_le_pow_right (by decide) (by omega)
      rw [this] at h
      exact ans_nil0 (show k _ [] from h true)
    · obtain ⟨N, hNn⟩ : ∃ N, N = n - w := ⟨_, rfl⟩
      have en : IntKind.i64.wrap ((n : Int) - (w : Int)) = (N : Int) := by rw [hNn, IntWalk.i64_in _ (by omega)]; omega
      rw [en]
      simp only [Int.toNat_natCast]
      have hXN : X < 4294967296 ^ N := by rw [hX]; exact down_lt hw hNn (by omega) ha
      refine ⟨⟨by decide, by omega, by omega, by unfold capOk; omega⟩, ?_⟩
      refine Loop.keep [0, 4, 0, 0, 16, 0] Nat (fun i => [(26, .int .i64 i)]) (fun i => [(0, .own false 1 N (fun k => [.int .u32 (dig (X % 4294967296 ^ i) k)]))]) [] (fun i => i ≤ N) (fun i => N - i) ?_ ?_
      · refine ⟨0, by omega, ?_⟩
        dsimp only [go_sem, reduceIte]
        simp only [fin_all, imp_self, implies_true, true_and, and_true]
        simp [Nat.mod_one, dig_zero, leL, le]
      · rintro i hi
        dsimp only [WD1_ct92, WD1_fn92, v92, Int.toNat_natCast, go_sem, reduceIte]
        simp only [t_all, forall_const, ne_eq, implies_true, Nat.reduceAdd, Nat.reduceLeDiff, reduceCtorEq, Nat.reduceEqDiff]
        refine ⟨fun hlt => ?_, fun hge => ?_⟩
        · have w1 : IntKind.i64.wrap ((i : Int) + (w : Int)) = ((i + w : Nat) : Int) := by rw [IntWalk.i64_in _ (by omega)]; simp
          have w2 : IntKind.i64.wrap (((i + w : Nat) : Int) + 1) = ((i + w + 1 : Nat) : Int) := by rw [IntWalk.i64_in _ (by omega)]; simp
          rw [w1, w2]
          simp only [Int.toNat_natCast]
          have hd1 := dig_lt a (i + w)
          have hd2 := dig_lt a (i + w + 1)
          refine ⟨⟨by omega, by omega⟩, fun hc2 => ⟨⟨by omega, by omega⟩, by decide, by rw [u_nat (by omega)]; omega, ⟨by omega, by omega⟩, by omega, i + 1, by omega, by omega, ?_⟩, fun hc2 => ⟨by rw [u_nat (by omega)]; omega, ⟨by omega, by omega⟩, by omega, i + 1, by omega, by omega, ?_⟩⟩
          · rw [u_nat (by omega : dig a (i + w) < 18446744073709551616), u_nat (by omega : dig a (i + w + 1) < 18446744073709551616), or_hi hd1 hd2, shr_r _ hr32, u3_cut, ← down_dig hw hr, IntWalk.i64_in ((i : Int) + 1) (by omega)]
            simp only [fin_all, imp_self, implies_true, true_and, and_true]
            refine ⟨by simp, fun j hj => ?_⟩
            rw [dig_mod_if, dig_mod_if, hX]
            by_cases hji : j = i
            · rw [if_pos hji, if_pos (by omega), hji]; simp only [leL, le, and_self]
            · rw [if_neg hji]; simp only [show (j < i + 1) ↔ (j < i) from by omega]; simp only [leL, le, and_self]
          · have hz : dig a (i + w + 1) = 0 := dig_big ha (by omega)
            have hdd := @down_dig a d w r hw hr i
            rw [hz, Nat.zero_mul, Nat.add_zero] at hdd
            rw [u_nat (by omega : dig a (i + w) < 18446744073709551616), shr_r _ hr32, u3_cut, ← hdd, IntWalk.i64_in ((i : Int) + 1) (by omega)]
            simp only [fin_all, imp_self, implies_true, true_and, and_true]
            refine ⟨by simp, fun j hj => ?_⟩
            rw [dig_mod_if, dig_mod_if, hX]
            by_cases hji : j = i
            · rw [if_pos hji, if_pos (by omega), hji]; simp only [leL, le, and_self]
            · rw [if_neg hji]; simp only [show (j < i + 1) ↔ (j < i) from by omega]; simp only [leL, le, and_self]
        · obtain rfl : i = N := by omega
          rw [Nat.mod_eq_of_lt hXN]
          have h : k (natS false X) [] := by rw [hX]; exact h false
          obtain ⟨N, rfl⟩ : ∃ N, N = i := ⟨_, rfl⟩
          refine Loop.keep [0] Nat (fun j => [(0, .own 0 0 j 1)]) (fun _ => [(0, .own false 1 N (fun k => [.int .u32 (dig X k)]))]) [] (fun j => j ≤ N ∧ X < 4294967296 ^ j) (fun j => j) ?_ ?_
          · refine ⟨N, ⟨Nat.le_refl _, hXN⟩, ?_⟩
            dsimp only [go_sem, reduceIte]
            simp only [fin_all, imp_self, implies_true, true_and, and_true]
            simp [leL, le]
          · rintro j ⟨hj, haj⟩
            dsimp only [Int.toNat_natCast, go_sem, reduceIte]
            simp only [t_all, forall_const, ne_eq, implies_true, Nat.reduceAdd, Nat.reduceLeDiff, reduceCtorEq, Nat.reduceEqDiff]
            refine ⟨fun hlt => ?_, fun hlt => ?_, fun hb => ?_, fun hb => ?_⟩
            · rw [w_pred (by omega) (by omega)]; omega
            · rw [w_pred (by omega) (by omega)]; omega
            · rw [Bool.and_eq_true, decide_eq_true_eq, decide_eq_true_eq] at hb
              obtain ⟨h1, h2⟩ := hb
              rw [w_pred (by omega) (by omega), Int.toNat_natCast] at h2
              refine ⟨by rw [w_pred (by omega) (by omega)]; omega, j - 1, ⟨by omega, ?_⟩, by omega, ?_⟩
              · obtain ⟨m, rfl⟩ : ∃ m, j = m + 1 := ⟨j - 1, by omega⟩
                exact lt_trim haj (by simp at h2; exact_mod_cast h2)
              · rw [w_pred (by omega) (by omega)]
                simp only [fin_all, imp_self, implies_true, true_and, and_true] <;> simp [leL, le]
            · have e : nl X = j := by
                refine nl_trim haj ?_
                rw [Bool.and_eq_false_iff, decide_eq_false_iff_not, decide_eq_false_iff_not] at hb
                rcases Nat.eq_zero_or_pos j with h0 | h0
                · exact .inl h0
                · refine .inr fun hh => hb.elim (fun h => h (by omega)) fun h => h ?_
                  rw [w_pred h0 (by omega), Int.toNat_natCast, hh]; rfl
              subst e
              exact ans_nat h rfl rfl rfl fun j hj => rfl
  · exact h.1.elim
theorem wup_ok : wupC.ok Try.prog 91 := by
  refine contract Try.func91 v91_is WD1_ok 300 wupC fun args k h => ?_
  simp only [wupC] at h
  split at h
  · rename_i t1 z1 n sz get s
    obtain ⟨a, d, ⟨⟨rfl, hn, ha, hg⟩, hna, hn9, rfl, hd⟩, h⟩ := h
    refine ⟨[.vs t1 z1 n 1 (fun k => [.int .u32 (dig a k)]), .int .i64 d], ⟨by simpa [le] using hg, ⟨rfl, rfl⟩, trivial⟩, ?_⟩
    dsimp only [v91, WD1_ct92, WD1_fn92, v92, go_sem, reduceIte]
    simp only [t_all, forall_const, ne_eq, implies_true, Nat.reduceAdd, Nat.reduceLeDiff, reduceCtorEq, Nat.reduceEqDiff]
    obtain ⟨w, hw⟩ : ∃ w, w = d / 32 := ⟨_, rfl⟩
    obtain ⟨r, hr⟩ : ∃ r, r = d % 32 := ⟨_, rfl⟩
    have hr32 : r < 32 := by rw [hr]; exact Nat.mod_lt _ (by decide)
    have ew : IntKind.i64.wrap ((d : Int).tdiv 32) = (w : Int) := by
      have : (d : Int).tdiv 32 = ((d / 32 : Nat) : Int) := IntWalk.up_tdiv (y := 32) rfl rfl
      rw [this, hw, IntWalk.i64_in _ (by omega)]
    have er : (d : Int).tmod 32 = (r : Int) := by rw [hr]; exact IntWalk.up_tmod (y := 32) rfl rfl
    obtain ⟨X, hX⟩ : ∃ X, X = a * 2 ^ d := ⟨_, rfl⟩
    rw [ew, er]
    refine ⟨fun hc => ?_, fun hc => ⟨by decide, by decide, ?_⟩⟩
    · obtain rfl : n = 0 := by omega
      have : a = 0 := by simpa using ha
      rw [this, Nat.zero_mul] at h
      exact ans_nil0 (show k _ [] from h true)
    · obtain ⟨N, hNn⟩ : ∃ N, N = n + w + 1 := ⟨_, rfl⟩
      have en : IntKind.i64.wrap (IntKind.i64.wrap ((n : Int) + (w : Int)) + 1) = (N : Int) := by rw [hNn, IntWalk.i64_in ((n : Int) + w) (by omega), IntWalk.i64_in _ (by omega)]; omega
      rw [en]
      simp only [Int.toNat_natCast]
      refine ⟨⟨by decide, by omega, by omega, by unfold capOk; omega⟩, ?_⟩
      refine Loop.keep [0, 4, 0, 0, 17, 0] Nat (fun i => [(27, .int .i64 i)]) (fun i => [(0, .own false 1 N (fun k => [.int .u32 (dig ((a % 4294967296 ^ i) * 2 ^ d) k)]))]) [] (fun i => i ≤ n) (fun i => n - i) ?_ ?_
      · refine ⟨0, by omega, ?_⟩
        dsimp only [go_sem, reduceIte]
        simp only [fin_all, imp_self, implies_true, true_and, and_true]
        simp [Nat.mod_one, dig_zero, leL, le]
      · rintro i hi
        dsimp only [WD1_ct92, WD1_fn92, v92, Int.toNat_natCast, go_sem, reduceIte]
        simp only [t_all, forall_const, ne_eq, implies_true, Nat.reduceAdd, Nat.reduceLeDiff, reduceCtorEq, Nat.reduceEqDiff]
        refine ⟨fun hlt => ?_, fun hge => ?_⟩
        · have w1 : IntKind.i64.wrap ((i : Int) + (w : Int)) = ((i + w : Nat) : Int) := by rw [IntWalk.i64_in _ (by omega)]; simp
          have w2 : IntKind.i64.wrap (((i + w : Nat) : Int) + 1) = ((i + w + 1 : Nat) : Int) := by rw [IntWalk.i64_in _ (by omega)]; simp
          rw [w1, w2]
          simp only [Int.toNat_natCast]
          have hd1 := dig_lt a i
          obtain ⟨s1, s2⟩ := @up_step a d w r hw hr i
          refine ⟨⟨by omega, by omega⟩, by rw [u_nat (by omega)]; omega, ⟨by omega, by omega⟩, by omega, ⟨by omega, by omega⟩, by omega, by decide, ⟨by omega, by omega⟩, by omega, i + 1, by omega, by omega, ?_⟩
          rw [u_nat (by omega : dig a i < 18446744073709551616), shl_r hd1 hr32, u3_cut, sh32, bI3_or (dig_lt _ _) (Nat.mod_lt _ (by decide)), u3_nat (by
            have h2r : 2 ^ r < 4294967296 := Nat.pow_lt_pow_right (a := 2) (n := 32) (by decide) hr32
            have : dig a i * 2 ^ r ≤ 4294967295 * 4294967295 := Nat.mul_le_mul (by omega) (by omega)
            omega), IntWalk.i64_in ((i : Int) + 1) (by omega)]
          simp only [fin_all, imp_self, implies_true, true_and, and_true]
          refine ⟨by simp, fun j hj => ?_⟩
          have hhi : dig a i * 2 ^ r / 4294967296 < 4294967296 := by
            have h2r : 2 ^ r < 4294967296 := Nat.pow_lt_pow_right (a := 2) (n := 32) (by decide) hr32
            have : dig a i * 2 ^ r ≤ 4294967295 * 4294967295 := Nat.mul_le_mul (by omega) (by omega)
            omega
          rw [s2, dig_setD hhi, dig_setD s1]
          by_cases hj1 : j = i + w + 1
          · rw [if_pos hj1, if_pos hj1, if_neg (by omega)]
            simp [spliceL, leL, le]
          · rw [if_neg hj1, if_neg hj1]
            split <;> simp only [leL, le, and_self]
        · obtain rfl : i = n := by omega
          rw [Nat.mod_eq_of_lt ha, ← hX]
          have h : k (natS false X) [] := by rw [hX]; exact h false
          have hXN : X < 4294967296 ^ N := by
            have h2r : 2 ^ r < 4294967296 := Nat.pow_lt_pow_right (a := 2) (n := 32) (by decide) hr32
            rw [hX, two_split hw hr, hNn, pw_succ, Nat.pow_add, Nat.mul_assoc, Nat.mul_comm _ (4294967296 ^ w)]
            exact Nat.mul_lt_mul_of_lt_of_le ha (Nat.mul_le_mul_left _ (Nat.le_of_lt h2r)) (Nat.mul_pos (pw_pos w) (by decide))
          refine Loop.keep [0] Nat (fun j => [(0, .own 0 0 j 1)]) (fun _ => [(0, .own false 1 N (fun k => [.int .u32 (dig X k)]))]) [] (fun j => j ≤ N ∧ X < 4294967296 ^ j) (fun j => j) ?_ ?_
          · refine ⟨N, ⟨Nat.le_refl _, hXN⟩, ?_⟩
            dsimp only [go_sem, reduceIte]
            simp only [fin_all, imp_self, implies_true, true_and, and_true]
            simp [leL, le]
          · rintro j ⟨hj, haj⟩
            dsimp only [Int.toNat_natCast, go_sem, reduceIte]
            simp only [t_all, forall_const, ne_eq, implies_true, Nat.reduceAdd, Nat.reduceLeDiff, reduceCtorEq, Nat.reduceEqDiff]
            refine ⟨fun hlt => ?_, fun hlt => ?_, fun hb => ?_, fun hb => ?_⟩
            · rw [w_pred (by omega) (by omega)]; omega
            · rw [w_pred (by omega) (by omega)]; omega
            · rw [Bool.and_eq_true, decide_eq_true_eq, decide_eq_true_eq] at hb
              obtain ⟨h1, h2⟩ := hb
              rw [w_pred (by omega) (by omega), Int.toNat_natCast] at h2
              refine ⟨by rw [w_pred (by omega) (by omega)]; omega, j - 1, ⟨by omega, ?_⟩, by omega, ?_⟩
              · obtain ⟨m, rfl⟩ : ∃ m, j = m + 1 := ⟨j - 1, by omega⟩
                exact lt_trim haj (by simp at h2; exact_mod_cast h2)
              · rw [w_pred (by omega) (by omega)]
                simp only [fin_all, imp_self, implies_true, true_and, and_true] <;> simp [leL, le]
            · have e : nl X = j := by
                refine nl_trim haj ?_
                rw [Bool.and_eq_false_iff, decide_eq_false_iff_not, decide_eq_false_iff_not] at hb
                rcases Nat.eq_zero_or_pos j with h0 | h0
                · exact .inl h0
                · refine .inr fun hh => hb.elim (fun h => h (by omega)) fun h => h ?_
                  rw [w_pred h0 (by omega), Int.toNat_natCast, hh]; rfl
              subst e
              exact ans_nat h rfl rfl rfl fun j hj => rfl
  · exact h.1.elim
end Go.Proofs.Ytmgfmkbniaepcaa
set_option linter.all false
namespace Go.Proofs.Ytmgfmkbniaepcaa
open Go Go.Vx
set_option maxRecDepth 100000
set_option maxHeartbeats 4000000
def v79 : VF := { ntmps := 7, res := [.tmp 2], body :=
 (.seq (.region [u1 2 .mov [.cn (.int .i64 0)]])
 (.seq (.seq (.region [u1 3 .mov [.tm 0],
 u1 4 (.call 86) [.tm 3, .cn (.fn (.func 87) [] [])]])
 (.cond (.tm 4) (.seq (.region [u1 2 .mov [.cn (.int .i64 3)]])
 .ret)
  .skip))
 (.seq (.seq (.region [u1 5 .mov [.tm 0],
 u1 6 (.call 86) [.tm 5, .cn (.fn (.func 88) [] [])]])
 (.cond (.tm 6) (.seq (.region [u1 2 .mov [.cn (.int .i64 2)]])
 .ret)
  .skip))
 (.seq (.region [u1 2 .mov [.cn (.int .i64 0)]])
 .ret)))) }
theorem v79_is : vfunc Try.prog Try.f79 = some v79 := by kernel_rfl
def v87 : VF := { ntmps := 6, res := [.tmp 2], body :=
 (.seq (.region [u1 2 .mov [.cn (.bool false)]])
 (.seq (.region [u1 3 .mov [.tm 0],
 u1 4 .len [.tm 3],
 u1 5 (.cmp .gtr) [.tm 4, .cn (.int .i64 512)],
 u1 2 .mov [.tm 5]])
 .ret)) }
theorem v87_is : vfunc Try.prog Try.f87 = some v87 := by kernel_rfl
def v88 : VF := { ntmps := 6, res := [.tmp 2], body :=
 (.seq (.region [u1 2 .mov [.cn (.bool false)]])
 (.seq (.region [u1 3 .mov [.tm 0],
 u1 4 (.call 89) [.tm 3],
 u1 5 .not [.tm 4],
 u1 2 .mov [.tm 5]])
 .ret)) }
theorem v88_is : vfunc Try.prog Try.f88 = some v88 := by kernel_rfl
def v89 : VF := { ntmps := 20, res := [.tmp 2], body :=
 (.seq (.region [u1 2 .mov [.cn (.bool false)]])
 (.seq (.region [u1 3 .mov [.tm 0],
 u1 4 .len [.tm 3],
 u1 5 (.cmp .leq) [.tm 4, .cn (.int .i64 512)],
 u1 6 .mov [.tm 5],
 u2 7 6 true .mov [.tm 0],
 u2 8 6 true .len [.tm 7],
 u2 9 6 true (.cmp .eql) [.tm 8, .cn (.int .i64 0)],
 u2 10 6 true .mov [.tm 9],
 u2 11 10 false .mov [.tm 0],
 u2 12 10 false .mov [.tm 0],
 u2 13 10 false .len [.tm 12],
 u2 14 10 false (.ari .sub) [.tm 13, .cn (.int .i64 1)],
 u2 15 10 false (.idxAddr 1) [.tm 11, .tm 14],
 u2 16 10 false (.load false 1) [.tm 15],
 u2 17 10 false (.cmp .neq) [.tm 16, .cn (.int .u32 0)],
 u2 18 6 true .or [.tm 10, .tm 17],
 u1 19 .and [.tm 6, .tm 18],
 u1 2 .mov [.tm 19]])
 .ret)) }
theorem v89_is : vfunc Try.prog Try.f89 = some v89 := by kernel_rfl
def v83 : VF := { ntmps := 9, res := [.tmp 2, .tmp 3], body :=
 (.seq (.region [u1 2 .mov [.cn .nil],
 u1 3 .mov [.cn (.int .i64 0)]])
 (.seq (.seq (.region [u1 4 .mov [.tm 0],
 u1 5 .len [.tm 4],
 u1 6 (.cmp .gtr) [.tm 5, .cn (.int .i64 512)]])
 (.cond (.tm 6) (.seq (.region [u1 2 .mov [.cn .nil],
 u1 3 .mov [.cn (.int .i64 3)]])
 .ret)
  .skip))
 (.seq (.region [u1 7 .mov [.tm 0],
 u1 8 (.call 93) [.tm 7],
 u1 2 .mov [.tm 8],
 u1 3 .mov [.cn (.int .i64 0)]])
 .ret))) }
theorem v83_is : vfunc Try.prog Try.f83 = some v83 := by kernel_rfl
def v70 : VF := { ntmps := 17, res := [.tmp 4, .tmp 5], body :=
 (.seq (.region [u1 4 .mov [.cn (.int .i64 0)],
 u1 5 .mov [.cn (.int .i64 0)]])
 (.seq (.seq (.region [u1 7 .mov [.tm 0],
 u1 8 .mov [.tm 1],
 u1 9 (.buildSlice 1 2 [.nil] [(0, 1), (1, 1)]) [.tm 7, .tm 8],
 u1 10 (.call 79) [.tm 9],
 u1 6 .mov [.tm 10]])
 (.seq (.region [u1 11 .mov [.tm 6],
 u1 12 (.cmp .neq) [.tm 11, .cn (.int .i64 0)]])
 (.cond (.tm 12) (.seq (.region [u1 13 .mov [.tm 6],
 u1 4 .mov [.cn (.int .i64 0)],
 u1 5 .mov [.tm 13]])
 .ret)
  .skip)))
 (.seq (.region [u1 14 .mov [.tm 0],
 u1 15 .mov [.tm 1],
 u1 16 (.call 80) [.tm 14, .tm 15],
 u1 4 .mov [.tm 16],
 u1 5 .mov [.cn (.int .i64 0)]])
 .ret))) }
theorem v70_is : vfunc Try.prog Try.f70 = some v70 := by kernel_rfl
def v81 : VF := { ntmps := 37, res := [.tmp 4, .tmp 5], body :=
 (.seq (.region [u1 4 .mov [.cn .nil],
 u1 5 .mov [.cn (.int .i64 0)]])
 (.seq (.region [u1 7 .mov [.tm 0],
 u1 8 (.buildSlice 1 1 [.nil] [(0, 1)]) [.tm 7],
 u1 9 (.call 79) [.tm 8],
 u1 6 .mov [.tm 9]])
 (.seq (.block 0 (.seq (.region [u1 11 .mov [.tm 6],
 u1 12 (.cmp .neq) [.tm 11, .cn (.int .i64 0)],
 u1 10 .mov [.tm 12]])
 (.cond (.tm 10) (.seq (.region [u1 13 .mov [.tm 6],
 u1 4 .mov [.cn .nil],
 u1 5 .mov [.tm 13]])
 .ret)
  (.seq (.region [u1 15 .mov [.tm 1],
 u1 16 (.cmp .lss) [.tm 15, .cn (.int .i64 (-20000))],
 u1 17 .mov [.tm 16],
 u2 18 17 false .mov [.tm 1],
 u2 19 17 false (.cmp .gtr) [.tm 18, .cn (.int .i64 20000)],
 u1 20 .or [.tm 17, .tm 19],
 u1 14 .mov [.tm 20]])
 (.cond (.tm 14) (.seq (.region [u1 4 .mov [.cn .nil],
 u1 5 .mov [.cn (.int .i64 2)]])
 .ret)
  (.seq (.region [u1 22 .mov [.tm 1],
 u1 23 (.cmp .lss) [.tm 22, .cn (.int .i64 0)],
 u1 21 .mov [.tm 23]])
 (.cond (.tm 21) (.seq (.region [u1 24 .mov [.tm 0],
 u1 25 .mov [.tm 1],
 u1 26 .neg [.tm 25],
 u1 27 (.call 90) [.tm 24, .tm 26],
 u1 28 (.call 83) [.tm 27],
 u1 29 (.ext 0) [.tm 28],
 u1 30 (.ext 1) [.tm 28],
 u1 4 .mov [.tm 29],
 u1 5 .mov [.tm 30]])
 .ret)
  .skip)))))))
 (.seq (.region [u1 31 .mov [.tm 0],
 u1 32 .mov [.tm 1],
 u1 33 (.call 91) [.tm 31, .tm 32],
 u1 34 (.call 83) [.tm 33],
 u1 35 (.ext 0) [.tm 34],
 u1 36 (.ext 1) [.tm 34],
 u1 4 .mov [.tm 35],
 u1 5 .mov [.tm 36]])
 .ret)))) }
theorem v81_is : vfunc Try.prog Try.f81 = some v81 := by kernel_rfl
def v76 : VF := { ntmps := 20, res := [.tmp 4, .tmp 5], body :=
 (.seq (.region [u1 4 .mov [.cn .nil],
 u1 5 .mov [.cn (.int .i64 0)]])
 (.seq (.seq (.region [u1 7 .mov [.tm 0],
 u1 8 .mov [.tm 1],
 u1 9 (.buildSlice 1 2 [.nil] [(0, 1), (1, 1)]) [.tm 7, .tm 8],
 u1 10 (.call 79) [.tm 9],
 u1 6 .mov [.tm 10]])
 (.seq (.region [u1 11 .mov [.tm 6],
 u1 12 (.cmp .neq) [.tm 11, .cn (.int .i64 0)]])
 (.cond (.tm 12) (.seq (.region [u1 13 .mov [.tm 6],
 u1 4 .mov [.cn .nil],
 u1 5 .mov [.tm 13]])
 .ret)
  .skip)))
 (.seq (.region [u1 14 .mov [.tm 0],
 u1 15 .mov [.tm 1],
 u1 16 (.call 82) [.tm 14, .tm 15],
 u1 17 (.call 83) [.tm 16],
 u1 18 (.ext 0) [.tm 17],
 u1 19 (.ext 1) [.tm 17],
 u1 4 .mov [.tm 18],
 u1 5 .mov [.tm 19]])
 .ret))) }
theorem v76_is : vfunc Try.prog Try.f76 = some v76 := by kernel_rfl
def v77 : VF := { ntmps := 20, res := [.tmp 4, .tmp 5], body :=
 (.seq (.region [u1 4 .mov [.cn .nil],
 u1 5 .mov [.cn (.int .i64 0)]])
 (.seq (.seq (.region [u1 7 .mov [.tm 0],
 u1 8 .mov [.tm 1],
 u1 9 (.buildSlice 1 2 [.nil] [(0, 1), (1, 1)]) [.tm 7, .tm 8],
 u1 10 (.call 79) [.tm 9],
 u1 6 .mov [.tm 10]])
 (.seq (.region [u1 11 .mov [.tm 6],
 u1 12 (.cmp .neq) [.tm 11, .cn (.int .i64 0)]])
 (.cond (.tm 12) (.seq (.region [u1 13 .mov [.tm 6],
 u1 4 .mov [.cn .nil],
 u1 5 .mov [.tm 13]])
 .ret)
  .skip)))
 (.seq (.region [u1 14 .mov [.tm 0],
 u1 15 .mov [.tm 1],
 u1 16 (.call 84) [.tm 14, .tm 15],
 u1 17 (.call 83) [.tm 16],
 u1 18 (.ext 0) [.tm 17],
 u1 19 (.ext 1) [.tm 17],
 u1 4 .mov [.tm 18],
 u1 5 .mov [.tm 19]])
 .ret))) }
theorem v77_is : vfunc Try.prog Try.f77 = some v77 := by kernel_rfl
def v86 : VF := { ntmps := 9, res := [.tmp 4], body :=
 (.seq (.region [u1 4 .mov [.cn (.bool false)]])
 (.seq (.region [u1 5 .mov [.tm 0],
 u1 6 .mov [.tm 1],
 u1 7 (.call 94) [.tm 5, .tm 6],
 u1 8 (.cmp .geq) [.tm 7, .cn (.int .i64 0)],
 u1 4 .mov [.tm 8]])
 .ret)) }
theorem v86_is : vfunc Try.prog Try.f86 = some v86 := by kernel_rfl
def v94 : VF := { ntmps := 19, res := [.tmp 4], body :=
 (.seq (.region [u1 4 .mov [.cn (.int .i64 0)]])
 (.seq (.seq (.region [u1 6 .mov [.tm 0],
 u1 7 .len [.tm 6],
 u1 8 .mov [.cn (.int .i64 0)]])
 (.block 0 (.loop (.seq (.region [u1 9 (.cmp .lss) [.tm 8, .tm 7]])
 (.seq (.cond (.tm 9) .skip
  (.exit 0))
 (.seq (.block 1 (.seq (.region [u1 10 .mov [.tm 8],
 u1 5 .mov [.tm 10]])
 (.seq (.region [u1 11 .mov [.tm 1],
 u1 12 .mov [.tm 0],
 u1 13 .mov [.tm 5],
 u1 14 (.idxAddr 1) [.tm 12, .tm 13],
 u1 15 (.load false 1) [.tm 14],
 u1 16 .callv [.tm 11, .tm 15]])
 (.cond (.tm 16) (.seq (.region [u1 17 .mov [.tm 5],
 u1 4 .mov [.tm 17]])
 .ret)
  .skip))))
 (.region [u1 18 (.ari .add) [.tm 8, .cn (.int .i64 1)],
 u1 8 .mov [.tm 18]])))))))
 (.seq (.region [u1 4 .mov [.cn (.int .i64 (-1))]])
 .ret))) }
theorem v94_is : vfunc Try.prog Try.f94 = some v94 := by kernel_rfl
def v93 : VF := { ntmps := 8, res := [.tmp 2], body :=
 (.seq (.region [u1 2 .mov [.cn .nil]])
 (.seq (.seq (.region [u1 3 .mov [.tm 0],
 u1 4 (.isNil false) [.tm 3, .cn .nil]])
 (.cond (.tm 4) (.seq (.region [u1 2 .mov [.cn .nil]])
 .ret)
  .skip))
 (.seq (.region [u1 5 (.buildSlice 1 0 [(.int .u32 0)] []) [],
 u1 6 .mov [.tm 0],
 u1 7 (.append 1 4 [(.int .u32 0)]) [.tm 5, .tm 6],
 u1 2 .mov [.tm 7]])
 .ret))) }
theorem v93_is : vfunc Try.prog Try.f93 = some v93 := by kernel_rfl
def wvalC : Ctr := { alias := false, of := fun l => match l with
  | [.vs _ _ n sz get] => .ex Nat fun a => .pre (padP a n sz get ∧ n = nl a ∧ n ≤ 512) (.fin (.bool true) [])
  | _ => noC }
def capF (a : Nat) : Nat := if nl a ≤ 512 then a else 0
def capE (a : Nat) : Int := if nl a ≤ 512 then 0 else 3
def resC : Ctr := { alias := false, of := fun l => match l with
  | [.vs _ z n sz get] => .ex Nat fun a => .pre (padP a n sz get ∧ n = nl a ∧ (z = true → n = 0)) (.all Bool fun y => .fin (.tup [natS y (capF a), .int .i64 (capE a)]) [])
  | _ => noC }
def natI (z : Bool) (a : Nat) : SV := .vs false z (nl a) 1 (fun k => [.int .u32 (dig a k)])
def wchkC : Ctr := { alias := false, of := fun l => match l with
  | [.vs _ _ n sz get] => .ex (List (Bool × Nat)) fun l => .pre (lsP 1 (fun x => [natI x.1 x.2]) n sz get l ∧ (∀ x, x ∈ l → nl x.2 ≤ 512) ∧ n ≤ 100) (.fin (.int .i64 0) [])
  | _ => noC }
def WD3 : Env := { ct := fun _ => none, fn := fun _ => none, meth := fun _ _ => none }
theorem WD3_ok : EnvOk Try.prog WD3 := by
  refine ⟨fun f c h => ?_, fun f vf h => ?_, (fun _ _ _ h => by cases h), by kernel_rfl, (fun _ h => by cases h)⟩
  · cases h
  · cases h
theorem wvalid_ok : wvalC.ok Try.prog 89 := by
  refine contract Try.func89 v89_is WD3_ok 200 wvalC fun args k h => ?_
  simp only [wvalC] at h
  split at h
  · rename_i tt z n sz get
    obtain ⟨a, ⟨⟨rfl, hn, ha, hg⟩, hna, hn5⟩, h⟩ := h
    refine ⟨[.vs tt z n 1 (fun k => [.int .u32 (dig a k)])], by simpa [leL, le] using hg, ?_⟩
    dsimp only [v89, go_sem, reduceIte]
    simp only [t_all, forall_const, ne_eq, implies_true, Nat.reduceAdd, Nat.reduceLeDiff, reduceCtorEq, Nat.reduceEqDiff]
    refine ⟨fun hb => ?_, fun c1 c2 => by rw [decide_eq_true c1, decide_eq_false c2]; rfl, ?_⟩
    · rw [Bool.and_eq_true, decide_eq_true_eq] at hb
      have h0 : ¬ ((n : Int) = 0) := fun e => by rw [decide_eq_true e] at hb; simp at hb
      rw [w_pred (by omega) (by omega)]
      omega
    · rw [decide_eq_true (by omega : (n : Int) ≤ 512), Bool.true_and]
      have : (decide ((n : Int) = 0) || !decide (((dig a (IntKind.i64.wrap ((n : Int) - 1)).toNat : Nat) : Int) = 0)) = true := by
        rcases Nat.eq_zero_or_pos n with h0 | h0
        · simp [h0]
        · have ht := nl_top (a := a) (fun e => by rw [e, nl_0] at hna; omega)
          rw [w_pred h0 (by omega), Int.toNat_natCast, hna, decide_eq_false (by omega : ¬ (((dig a (nl a - 1) : Nat) : Int) = 0))]
          simp
      rw [this]
      exact ans_bool h
  · exact h.1.elim
def WD4 : Env := { ct := fun _ => none, fn := fun n => match n with | 93 => some v93 | _ => none, meth := fun _ _ => none }
theorem WD4_ct93 : WD4.ct 93 = none := rfl
theorem WD4_fn93 : WD4.fn 93 = some v93 := rfl
theorem WD4_ok : EnvOk Try.prog WD4 := by
  refine ⟨fun f c h => ?_, fun f vf h => ?_, (fun _ _ _ h => by cases h), by kernel_rfl, (fun _ h => by cases h)⟩
  · cases h
  · simp only [WD4] at h
    split at h
    · cases h; exact ⟨Try.f93, Try.func93, v93_is, Try.f93, Try.func93, by kernel_rfl, by kernel_rfl⟩
    · cases h
theorem ans_nilN {k : SV → List HO → Prop} {al : Bool} {hp : List HO} {e : Int} (h : k (.tup [natS true 0, .int .i64 e]) []) : answers al k (.tup [.nil, .int .i64 e]) hp :=
  ans_le (show k _ [] from h) (by simp [natS, nl_0, expo, view, viewL, le, leL]) (fun _ => by simp [natS, freshS, freshL])
theorem wres_ok : resC.ok Try.prog 83 := by
  refine contract Try.func83 v83_is WD4_ok 200 resC fun args k h => ?_
  simp only [resC] at h
  split at h
  · rename_i tt z n sz get
    obtain ⟨a, ⟨⟨rfl, hn, ha, hg⟩, hna, hz0⟩, h⟩ := h
    refine ⟨[.vs tt z n 1 (fun k => [.int .u32 (dig a k)])], by simpa [leL, le] using hg, ?_⟩
    dsimp only [v83, WD4_ct93, WD4_fn93, v93, go_sem, reduceIte]
    simp only [t_all, forall_const, ne_eq, implies_true, Nat.reduceAdd, Nat.reduceLeDiff, reduceCtorEq, Nat.reduceEqDiff]
    refine ⟨fun hc => ?_, fun hc => ⟨fun hz => ?_, fun hz => ⟨by decide, by unfold capOk; omega, ?_⟩⟩⟩
    · have h : k (.tup [natS true (capF a), .int .i64 (capE a)]) [] := h true
      rw [capF, capE, if_neg (by omega), if_neg (by omega)] at h
      exact ans_nilN h
    · have h : k (.tup [natS true (capF a), .int .i64 (capE a)]) [] := h true
      have : a = 0 := nl_eq0.1 (by have := hz0 hz; omega)
      rw [this] at h
      exact ans_nilN h
    · have h : k (.tup [natS (false && decide (n = 0)) (capF a), .int .i64 (capE a)]) [] := h _
      rw [capF, capE, if_pos (by omega), if_pos (by omega)] at h
      refine ans_le h ?_ (fun _ => by simp [natS, freshS, freshL])
      have e : expo [HO.own (false && decide (n = 0)) 1 (0 + n) fun k => if k < 0 then purgeL 0 (takeL 1 (dropL (k * 1) [])) else [SV.int IntKind.u32 ((dig a (k - 0) : Nat) : Int)]] (SV.tup [SV.own 0 0 (0 + n) 1, SV.int IntKind.i64 0]) = .tup [.vs true (false && decide (n = 0)) (0 + n) 1 (fun k => [.int .u32 (dig a k)]), .int .i64 0] := by
        simp [expo, view, viewL, viewN, getH, addLo_z]
      rw [e, Nat.zero_add, hna]
      exact le_self _ ⟨trivial, trivial, trivial⟩
  · exact h.1.elim
def WD5 : Env := { ct := fun n => match n with | 89 => some wvalC | _ => none, fn := fun n => match n with | 86 => some v86 | 94 => some v94 | 87 => some v87 | 88 => some v88 | _ => none, meth := fun _ _ => none }
theorem WD5_ct89 : WD5.ct 89 = some wvalC := rfl
theorem WD5_ct86 : WD5.ct 86 = none := rfl
theorem WD5_fn86 : WD5.fn 86 = some v86 := rfl
theorem WD5_ct94 : WD5.ct 94 = none := rfl
theorem WD5_fn94 : WD5.fn 94 = some v94 := rfl
theorem WD5_ct87 : WD5.ct 87 = none := rfl
theorem WD5_fn87 : WD5.fn 87 = some v87 := rfl
theorem WD5_ct88 : WD5.ct 88 = none := rfl
theorem WD5_fn88 : WD5.fn 88 = some v88 := rfl
theorem WD5_ok : EnvOk Try.prog WD5 := by
  refine ⟨fun f c h => ?_, fun f vf h => ?_, (fun _ _ _ h => by cases h), by kernel_rfl, (fun _ h => by cases h)⟩
  · simp only [WD5] at h
    split at h
    · cases h; exact ⟨wvalid_ok, Try.f89, Try.func89, by kernel_rfl, by kernel_rfl⟩
    · cases h
  · simp only [WD5] at h
    split at h
    · cases h; exact ⟨Try.f86, Try.func86, v86_is, Try.f86, Try.func86, by kernel_rfl, by kernel_rfl⟩
    · cases h; exact ⟨Try.f94, Try.func94, v94_is, Try.f94, Try.func94, by kernel_rfl, by kernel_rfl⟩
    · cases h; exact ⟨Try.f87, Try.func87, v87_is, Try.f87, Try.func87, by kernel_rfl, by kernel_rfl⟩
    · cases h; exact ⟨Try.f88, Try.func88, v88_is, Try.f88, Try.func88, by kernel_rfl, by kernel_rfl⟩
    · cases h
theorem wchk_ok : wchkC.ok Try.prog 79 := by
  refine contract Try.func79 v79_is WD5_ok 400 wchkC fun args k h => ?_
  simp only [wchkC] at h
  split at h
  · rename_i tt z n sz get
    obtain ⟨l, ⟨⟨rfl, rfl, hg⟩, hl, hn⟩, h⟩ := h
    refine ⟨[.vs tt z l.length 1 (fun k => [natI (l.getD k default).1 (l.getD k default).2])], by simpa [leL, le] using hg, ?_⟩
    dsimp only [v79, WD5_ct86, WD5_fn86, v86, WD5_ct94, WD5_fn94, v94, go_sem, reduceIte]
    simp only [t_all, forall_const, ne_eq, implies_true, Nat.reduceAdd, Nat.reduceLeDiff, reduceCtorEq, Nat.reduceEqDiff]
    refine Loop.keep [0, 0, 2, 1, 0] Nat (fun i => [(8, .int .i64 i)]) (fun _ => []) [] (fun i => i ≤ l.length) (fun i => l.length - i) ?_ ?_
    · refine ⟨0, by omega, ?_⟩
      dsimp only [go_sem, reduceIte]
      simp only [fin_all, imp_self, implies_true, true_and, and_true]
      try simp
    · rintro i hi
      dsimp only [WD5_ct87, WD5_fn87, v87, WD5_ct89, wvalC, natI, Int.toNat_natCast, go_sem, reduceIte]
      simp only [t_all, forall_const, ne_eq, implies_true, Nat.reduceAdd, Nat.reduceLeDiff, reduceCtorEq, Nat.reduceEqDiff]
      have h5 : ∀ i, i < l.length → nl (l.getD i default).2 ≤ 512 := fun i hi => hl _ (getD_mem hi)
      refine ⟨fun hlt => ⟨⟨by omega, by omega⟩, fun hc => ?_, fun hc => ⟨i + 1, by omega, by omega, ?_⟩⟩, fun hge => ?_⟩
      · have := h5 i (by omega); omega
      · rw [IntWalk.i64_in ((i : Int) + 1) (by omega)]
        simp only [fin_all, imp_self, implies_true, true_and, and_true]
        simp
      · dsimp only [WD5_ct86, WD5_fn86, v86, WD5_ct94, WD5_fn94, v94, go_sem, reduceIte]
        simp only [t_all, forall_const, ne_eq, implies_true, Nat.reduceAdd, Nat.reduceLeDiff, reduceCtorEq, Nat.reduceEqDiff]
        refine ⟨fun hh => absurd hh (by decide), fun _ => ?_⟩
        refine Loop.keep [0, 0, 2, 1, 0] Nat (fun i => [(8, .int .i64 i)]) (fun _ => []) [] (fun i => i ≤ l.length) (fun i => l.length - i) ?_ ?_
        · refine ⟨0, by omega, ?_⟩
          dsimp only [go_sem, reduceIte]
          simp only [fin_all, imp_self, implies_true, true_and, and_true]
          try simp
        · rintro i hi
          dsimp only [WD5_ct88, WD5_fn88, v88, WD5_ct89, wvalC, natI, Int.toNat_natCast, go_sem, reduceIte]
          simp only [t_all, forall_const, ne_eq, implies_true, Nat.reduceAdd, Nat.reduceLeDiff, reduceCtorEq, Nat.reduceEqDiff]
          have h5 : ∀ i, i < l.length → nl (l.getD i default).2 ≤ 512 := fun i hi => hl _ (getD_mem hi)
          refine ⟨fun hlt => ?_, fun hge => ⟨fun hneg => absurd hneg (by decide), fun _ => ans_int h⟩⟩
          · have := h5 i (by omega)
            refine ⟨⟨by omega, by omega⟩, _, ⟨padP_nl (by omega), rfl, this⟩, i + 1, by omega, by omega, ?_⟩
            rw [IntWalk.i64_in ((i : Int) + 1) (by omega)]
            simp only [fin_all, imp_self, implies_true, true_and, and_true]
            try simp
  · exact h.1.elim
def okW (a n sz : Nat) (get : Nat → List SV) : Prop := padP a n sz get ∧ n = nl a ∧ n ≤ 512
def wCmpC : Ctr := { alias := false, of := fun l => match l with
  | [.vs _ z n sz get, .vs _ z' m sz' get'] => .ex Nat fun a => .ex Nat fun b => .pre (okW a n sz get ∧ okW b m sz' get') (.fin (.tup [.int .i64 (ordN a b), .int .i64 0]) [])
  | _ => noC }
def wAddC : Ctr := { alias := false, of := fun l => match l with
  | [.vs _ z n sz get, .vs _ z' m sz' get'] => .ex Nat fun a => .ex Nat fun b => .pre (okW a n sz get ∧ okW b m sz' get') (.all Bool fun y => .fin (.tup [natS y (capF (a + b)), .int .i64 (capE (a + b))]) [])
  | _ => noC }
def wMulC : Ctr := { alias := false, of := fun l => match l with
  | [.vs _ z n sz get, .vs _ z' m sz' get'] => .ex Nat fun a => .ex Nat fun b => .pre (okW a n sz get ∧ okW b m sz' get') (.all Bool fun y => .fin (.tup [natS y (capF (a * b)), .int .i64 (capE (a * b))]) [])
  | _ => noC }
def shF (a : Nat) (d : Int) : Nat := if d < 0 then a / 2 ^ (-d).toNat else a * 2 ^ d.toNat
def wShiftC : Ctr := { alias := false, of := fun l => match l with
  | [.vs _ z n sz get, .int .i64 d] => .ex Nat fun a => .pre (okW a n sz get ∧ -20000 ≤ d ∧ d ≤ 20000) (.all Bool fun y => .fin (.tup [natS y (capF (shF a d)), .int .i64 (capE (shF a d))]) [])
  | _ => noC }
def WD6 : Env := { ct := fun n => match n with | 79 => some wchkC | 83 => some resC | 80 => some wcmpC | 82 => some plusC | 84 => some wtimC | 91 => some wupC | 90 => some wdownC | _ => none, fn := fun _ => none, meth := fun _ _ => none }
theorem WD6_ct79 : WD6.ct 79 = some wchkC := rfl
theorem WD6_ct83 : WD6.ct 83 = some resC := rfl
theorem WD6_ct80 : WD6.ct 80 = some wcmpC := rfl
theorem WD6_ct82 : WD6.ct 82 = some plusC := rfl
theorem WD6_ct84 : WD6.ct 84 = some wtimC := rfl
theorem WD6_ct91 : WD6.ct 91 = some wupC := rfl
theorem WD6_ct90 : WD6.ct 90 = some wdownC := rfl
theorem WD6_ok : EnvOk Try.prog WD6 := by
  refine ⟨fun f c h => ?_, fun f vf h => ?_, (fun _ _ _ h => by cases h), by kernel_rfl, (fun _ h => by cases h)⟩
  · simp only [WD6] at h
    split at h
    · cases h; exact ⟨wchk_ok, Try.f79, Try.func79, by kernel_rfl, by kernel_rfl⟩
    · cases h; exact ⟨wres_ok, Try.f83, Try.func83, by kernel_rfl, by kernel_rfl⟩
    · cases h; exact ⟨wcmp_ok, Try.f80, Try.func80, by kernel_rfl, by kernel_rfl⟩
    · cases h; exact ⟨wplus_ok, Try.f82, Try.func82, by kernel_rfl, by kernel_rfl⟩
    · cases h; exact ⟨wtimes_ok, Try.f84, Try.func84, by kernel_rfl, by kernel_rfl⟩
    · cases h; exact ⟨wup_ok, Try.f91, Try.func91, by kernel_rfl, by kernel_rfl⟩
    · cases h; exact ⟨wdown_ok, Try.f90, Try.func90, by kernel_rfl, by kernel_rfl⟩
    · cases h
  · cases h
theorem ans_oi {k : SV → List HO → Prop} {al : Bool} {hp : List HO} {κ κ' : IntKind} {x y : Int} (h : k (.tup [.int κ x, .int κ' y]) []) : answers al k (.tup [.int κ x, .int κ' y]) hp :=
  ans_le (show k _ [] from h) (le_self (.tup [.int κ x, .int κ' y]) ⟨trivial, trivial, trivial⟩) (fun _ => by simp [freshS, freshL])
theorem two_chk {t1 z1 t2 z2 : Bool} {a b : Nat} {hp : List HO} {r : List SV → List SV} : lsP 1 (fun x : Bool × Nat => [natI x.1 x.2]) 2 1 (fun k => viewL false hp r (takeL 1 (dropL (k * 1) [SV.vs t1 z1 (nl a) 1 fun k => [SV.int IntKind.u32 (dig a k)], SV.vs t2 z2 (nl b) 1 fun k => [SV.int IntKind.u32 (dig b k)]]))) [(z1, a), (z2, b)] :=
  ⟨rfl, rfl, fun k hk => match k, hk with
    | 0, _ => by refine ⟨?_, trivial⟩; exact ⟨fun h => (by cases h), rfl, rfl, rfl, fun j _ => leXL_self _⟩
    | 1, _ => by refine ⟨?_, trivial⟩; exact ⟨fun h => (by cases h), rfl, rfl, rfl, fun j _ => leXL_self _⟩⟩
theorem one_chk {t1 z1 : Bool} {a : Nat} {hp : List HO} {r : List SV → List SV} : lsP 1 (fun x : Bool × Nat => [natI x.1 x.2]) 1 1 (fun k => viewL false hp r (takeL 1 (dropL (k * 1) [SV.vs t1 z1 (nl a) 1 fun k => [SV.int IntKind.u32 (dig a k)]]))) [(z1, a)] :=
  ⟨rfl, rfl, fun k hk => match k, hk with
    | 0, _ => by refine ⟨?_, trivial⟩; exact ⟨fun h => (by cases h), rfl, rfl, rfl, fun j _ => leXL_self _⟩⟩
theorem two_all {z1 z2 : Bool} {a b : Nat} (h1 : nl a ≤ 512) (h2 : nl b ≤ 512) : ∀ x : Bool × Nat, x ∈ [(z1, a), (z2, b)] → nl x.2 ≤ 512 := by simp [h1, h2]
theorem one_all {z1 : Bool} {a : Nat} (h1 : nl a ≤ 512) : ∀ x : Bool × Nat, x ∈ [(z1, a)] → nl x.2 ≤ 512 := by simp [h1]
theorem ans_wi {k : SV → List HO → Prop} {al : Bool} {hp : List HO} {z : Bool} {a : Nat} {e : Int} (h : k (.tup [natS z a, .int .i64 e]) []) : answers al k (.tup [natS z a, .int .i64 e]) hp :=
  ans_le (show k _ [] from h) (le_self _ ⟨trivial, trivial, trivial⟩) (fun _ => by simp [natS, freshS, freshL])
theorem wCmp_ok : wCmpC.ok Try.prog 70 := by
  refine contract Try.func70 v70_is WD6_ok 200 wCmpC fun args k h => ?_
  simp only [wCmpC] at h
  split at h
  · rename_i t1 z1 n sz get t2 z2 m sz' get'
    obtain ⟨a, b, ⟨⟨⟨rfl, hn, ha, hg⟩, hna, hn5⟩, ⟨rfl, hm, hb, hg'⟩, hmb, hm5⟩, h⟩ := h
    refine ⟨[.vs t1 z1 n 1 (fun k => [.int .u32 (dig a k)]), .vs t2 z2 m 1 (fun k => [.int .u32 (dig b k)])], ⟨by simpa [le] using hg, by simpa [le] using hg', trivial⟩, ?_⟩
    dsimp only [v70, WD6_ct79, WD6_ct80, wchkC, wcmpC, go_sem, reduceIte]
    simp only [t_all, forall_const, ne_eq, implies_true, Nat.reduceAdd, Nat.reduceLeDiff, reduceCtorEq, Nat.reduceEqDiff]
    subst hna hmb
    refine ⟨by decide, _, ⟨two_chk, two_all hn5 hm5⟩, fun hh => absurd trivial hh, a, b, ⟨padP_nl hn, padP_nl hm, rfl, rfl⟩, ans_oi h⟩
  · exact h.1.elim
theorem nl_add_le {a b n : Nat} (h1 : nl a ≤ n) (h2 : nl b ≤ n) : nl (a + b) ≤ n + 1 := by
  have h1 := nl_le.1 h1
  have h2 := nl_le.1 h2
  rw [nl_le, pw_succ]
  generalize (4294967296 : Nat) ^ n = P at *
  omega
theorem nl_mul_le {a b n m : Nat} (h1 : nl a ≤ n) (h2 : nl b ≤ m) : nl (a * b) ≤ n + m := by
  have h1 := nl_le.1 h1
  have h2 := nl_le.1 h2
  rw [nl_le, Nat.pow_add]
  exact Nat.mul_lt_mul_of_lt_of_le h1 (Nat.le_of_lt h2) (pw_pos _)
theorem nl_shl_le {a e n m k : Nat} (h1 : nl a ≤ n) (he : e ≤ 32 * m) (hk : n + m ≤ k) : nl (a * 2 ^ e) ≤ k := by
  have h1 := nl_le.1 h1
  refine nl_le.2 ?_
  have h2 : (2 : Nat) ^ e ≤ 4294967296 ^ m := by rw [pw_two]; exact Nat.pow_le_pow_right (by decide) he
  refine Nat.lt_of_lt_of_le (Nat.mul_lt_mul_of_lt_of_le h1 h2 (pw_pos _)) ?_
  rw [← Nat.pow_add]
  exact Nat.pow_le_pow_right (by decide) hk
theorem wAdd_ok : wAddC.ok Try.prog 76 := by
  refine contract Try.func76 v76_is WD6_ok 200 wAddC fun args k h => ?_
  simp only [wAddC] at h
  split at h
  · rename_i t1 z1 n sz get t2 z2 m sz' get'
    obtain ⟨a, b, ⟨⟨⟨rfl, hn, ha, hg⟩, hna, hn5⟩, ⟨rfl, hm, hb, hg'⟩, hmb, hm5⟩, h⟩ := h
    refine ⟨[.vs t1 z1 n 1 (fun k => [.int .u32 (dig a k)]), .vs t2 z2 m 1 (fun k => [.int .u32 (dig b k)])], ⟨by simpa [le] using hg, by simpa [le] using hg', trivial⟩, ?_⟩
    dsimp only [v76, WD6_ct79, WD6_ct82, WD6_ct83, wchkC, plusC, resC, natS, go_sem, reduceIte]
    simp only [t_all, forall_const, ne_eq, implies_true, Nat.reduceAdd, Nat.reduceLeDiff, reduceCtorEq, Nat.reduceEqDiff]
    subst hna hmb
    have hs : nl (a + b) ≤ 513 := nl_add_le hn5 hm5
    refine ⟨by decide, _, ⟨two_chk, two_all hn5 hm5⟩, fun hh => absurd trivial hh, a, b, ⟨padP_nl hn, padP_nl hm, by omega, by omega⟩, a + b, ⟨padP_nl (by omega), rfl⟩, fun y => ?_⟩
    refine ⟨by decide, by decide, ?_⟩
    exact ans_wi (show k (.tup [natS y (capF (a + b)), .int .i64 (capE (a + b))]) [] from h y)
  · exact h.1.elim
theorem wMul_ok : wMulC.ok Try.prog 77 := by
  refine contract Try.func77 v77_is WD6_ok 200 wMulC fun args k h => ?_
  simp only [wMulC] at h
  split at h
  · rename_i t1 z1 n sz get t2 z2 m sz' get'
    obtain ⟨a, b, ⟨⟨⟨rfl, hn, ha, hg⟩, hna, hn5⟩, ⟨rfl, hm, hb, hg'⟩, hmb, hm5⟩, h⟩ := h
    refine ⟨[.vs t1 z1 n 1 (fun k => [.int .u32 (dig a k)]), .vs t2 z2 m 1 (fun k => [.int .u32 (dig b k)])], ⟨by simpa [le] using hg, by simpa [le] using hg', trivial⟩, ?_⟩
    dsimp only [v77, WD6_ct79, WD6_ct84, WD6_ct83, wchkC, wtimC, resC, natS, go_sem, reduceIte]
    simp only [t_all, forall_const, ne_eq, implies_true, Nat.reduceAdd, Nat.reduceLeDiff, reduceCtorEq, Nat.reduceEqDiff]
    subst hna hmb
    have hs : nl (a * b) ≤ 1024 := nl_mul_le (n := 512) (m := 512) hn5 hm5
    refine ⟨by decide, _, ⟨two_chk, two_all hn5 hm5⟩, fun hh => absurd trivial hh, a, b, ⟨padP_nl hn, padP_nl hm, by omega⟩, a * b, ⟨padP_nl (by omega), rfl⟩, fun y => ?_⟩
    refine ⟨by decide, by decide, ?_⟩
    exact ans_wi (show k (.tup [natS y (capF (a * b)), .int .i64 (capE (a * b))]) [] from h y)
  · exact h.1.elim
theorem wShift_ok : wShiftC.ok Try.prog 81 := by
  refine contract Try.func81 v81_is WD6_ok 200 wShiftC fun args k h => ?_
  simp only [wShiftC] at h
  split at h
  · rename_i t1 z1 n sz get d
    obtain ⟨a, ⟨⟨⟨rfl, hn, ha, hg⟩, hna, hn5⟩, hd0, hd1⟩, h⟩ := h
    refine ⟨[.vs t1 z1 n 1 (fun k => [.int .u32 (dig a k)]), .int .i64 d], ⟨by simpa [le] using hg, ⟨rfl, rfl⟩, trivial⟩, ?_⟩
    dsimp only [v81, WD6_ct79, WD6_ct91, WD6_ct90, WD6_ct83, wchkC, wupC, wdownC, resC, natS, go_sem, reduceIte]
    simp only [t_all, forall_const, ne_eq, implies_true, Nat.reduceAdd, Nat.reduceLeDiff, reduceCtorEq, Nat.reduceEqDiff]
    subst hna
    refine ⟨by decide, _, ⟨one_chk, one_all hn5⟩, fun hh => absurd trivial hh, fun hb => ?_, fun _ => ⟨fun hneg => ?_, fun hpos => ?_⟩⟩
    · rw [Bool.or_eq_true, decide_eq_true_eq, decide_eq_true_eq] at hb
      omega
    · obtain ⟨e, he⟩ : ∃ e : Nat, e = (-d).toNat := ⟨_, rfl⟩
      have e1 : IntKind.i64.wrap (0 - d) = (e : Int) := by rw [he, IntWalk.i64_in _ (by omega)]; omega
      rw [e1]
      have hdl : nl (a / 2 ^ e) ≤ 512 := Nat.le_trans (nl_mono (Nat.div_le_self _ _)) hn5
      refine ⟨a, e, ⟨padP_nl hn, by omega, rfl, by omega⟩, fun z => ⟨a / 2 ^ e, ⟨padP_nl (by omega), rfl, fun hz => ?_⟩, fun y => ⟨by decide, by decide, ?_⟩⟩⟩
      · rw [Bool.and_eq_true, decide_eq_true_eq] at hz
        rw [hz.2, nl_0]
      · have h : k (.tup [natS y (capF (shF a d)), .int .i64 (capE (shF a d))]) [] := h y
        rw [shF, if_pos hneg, ← he] at h
        exact ans_wi h
    · obtain ⟨e, he⟩ : ∃ e : Nat, e = d.toNat := ⟨_, rfl⟩
      have hde : d = (e : Int) := by omega
      have hdl : nl (a * 2 ^ e) ≤ 2000 := nl_shl_le (n := 512) (m := 626) hn5 (by omega) (by decide)
      refine ⟨a, e, ⟨padP_nl hn, rfl, by omega, hde, by omega⟩, fun z => ⟨a * 2 ^ e, ⟨padP_nl (by omega), rfl, fun hz => ?_⟩, fun y => ⟨by decide, by decide, ?_⟩⟩⟩
      · rw [Bool.and_eq_true, decide_eq_true_eq] at hz
        rw [hz.2, nl_0]
      · have h : k (.tup [natS y (capF (shF a d)), .int .i64 (capE (shF a d))]) [] := h y
        rw [shF, if_neg hpos, ← he] at h
        exact ans_wi h
  · exact h.1.elim
end Go.Proofs.Ytmgfmkbniaepcaa
set_option linter.all false
namespace Go.Proofs.Ytmgfmkbniaepcaa
open Go Go.Vx
set_option maxRecDepth 100000
set_option maxHeartbeats 4000000
def v38 : VF := { ntmps := 59, res := [.tmp 4], body :=
 (.seq (.region [u1 4 .mov [.cn .nil]])
 (.seq (.region [u1 10 .mov [.tm 0],
 u1 11 .len [.tm 10],
 u1 12 .mov [.tm 1],
 u1 13 .len [.tm 12],
 u1 14 (.ari .add) [.tm 11, .tm 13],
 u1 15 (.ari .add) [.tm 14, .cn (.int .i64 1)],
 u1 16 (.make 1 4 [(.int .u32 0)]) [.tm 15, .tm 15],
 u1 5 .mov [.tm 16]])
 (.seq (.seq (.region [u1 6 .mov [.cn (.int .i64 0)]])
 (.block 0 (.loop (.seq (.seq (.region [u1 17 .mov [.tm 6],
 u1 18 .mov [.tm 0],
 u1 19 .len [.tm 18],
 u1 20 (.cmp .lss) [.tm 17, .tm 19]])
 (.cond (.tm 20) .skip
  (.exit 0)))
 (.seq (.block 1 (.seq (.region [u1 7 .mov [.cn (.int .u64 0)]])
 (.seq (.region [u1 8 .mov [.cn (.int .i64 0)]])
 (.block 2 (.loop (.seq (.seq (.region [u1 23 .mov [.tm 8],
 u1 24 .mov [.tm 1],
 u1 25 .len [.tm 24],
 u1 26 (.ari .add) [.tm 25, .cn (.int .i64 1)],
 u1 27 (.cmp .lss) [.tm 23, .tm 26]])
 (.cond (.tm 27) .skip
  (.exit 2)))
 (.seq (.block 3 (.seq (.draw [] [w1 30 .mov [.tm 5],
 w1 31 .mov [.tm 6],
 w1 32 .mov [.tm 8],
 w1 33 (.ari .add) [.tm 31, .tm 32],
 w1 34 (.idxAddr 1) [.tm 30, .tm 33],
 w1 35 (.load false 1) [.tm 34],
 w1 36 (.conv .u64) [.tm 35],
 w1 37 .mov [.tm 0],
 w1 38 .mov [.tm 6],
 w1 40 .mov [.tm 1],
 w1 41 .mov [.tm 8],
 w1 45 .mov [.tm 7],
 w1 39 (.call 39) [.tm 37, .tm 38],
 w1 42 (.call 39) [.tm 40, .tm 41],
 w1 43 (.ari .mul) [.tm 39, .tm 42],
 w1 44 (.ari .add) [.tm 36, .tm 43],
 w1 46 (.ari .add) [.tm 44, .tm 45],
 w1 9 .mov [.tm 46]])
 (.seq (.region [u1 47 .mov [.tm 5],
 u1 48 .mov [.tm 6],
 u1 49 .mov [.tm 8],
 u1 50 (.ari .add) [.tm 48, .tm 49],
 u1 51 .mov [.tm 9],
 u1 52 .rem [.tm 51, .cn (.int .u64 4294967296)],
 u1 53 (.conv .u32) [.tm 52],
 u1 54 (.idxAddr 1) [.tm 47, .tm 50],
 u0 (.store 1) [.tm 54, .tm 53]])
 (.region [u1 55 .mov [.tm 9],
 u1 56 .quo [.tm 55, .cn (.int .u64 4294967296)],
 u1 7 .mov [.tm 56]]))))
 (.region [u1 28 .mov [.tm 8],
 u1 29 (.ari .add) [.tm 28, .cn (.int .i64 1)],
 u1 8 .mov [.tm 29]]))))))))
 (.region [u1 21 .mov [.tm 6],
 u1 22 (.ari .add) [.tm 21, .cn (.int .i64 1)],
 u1 6 .mov [.tm 22]]))))))
 (.seq (.region [u1 57 .mov [.tm 5],
 u1 58 (.call 24) [.tm 57],
 u1 4 .mov [.tm 58]])
 .ret)))) }
theorem v38_is : vfunc Try.prog Try.f38 = some v38 := by kernel_rfl
def timesC : Ctr := { alias := false, of := fun l => match l with
  | [.vs _ _ n sz get, .vs _ _ m sz' get'] => .ex Nat fun a => .ex Nat fun b => .pre (padP a n sz get ∧ padP b m sz' get' ∧ n + m ≤ 99999) (.fin (natS false (a * b)) [])
  | _ => noC }
theorem times_ok : timesC.ok Try.prog 38 := by
  refine contract Try.func38 v38_is R1_ok 300 timesC fun args k h => ?_
  simp only [timesC] at h
  split at h
  · rename_i t1 z1 n sz get t2 z2 m sz' get'
    obtain ⟨a, b, ⟨⟨rfl, hn, ha, hg⟩, ⟨rfl, hm, hb, hg'⟩, hnm⟩, h⟩ := h
    refine ⟨[.vs t1 z1 n 1 (fun k => [.int .u32 (dig a k)]), .vs t2 z2 m 1 (fun k => [.int .u32 (dig b k)])], ⟨by simpa [le] using hg, by simpa [le] using hg', trivial⟩, ?_⟩
    (try dsimp only [v38, go_sem, reduceIte])
    (try simp only [t_all, forall_const, ne_eq, implies_true, Nat.reduceAdd, Nat.reduceLeDiff, reduceCtorEq, Nat.reduceEqDiff])
    have en : IntKind.i64.wrap (IntKind.i64.wrap ((n : Int) + (m : Int)) + 1) = ((n + m + 1 : Nat) : Int) := by
      rw [IntWalk.i64_in ((n : Int) + m) (by omega), IntWalk.i64_in _ (by omega)]; omega
    rw [en]
    simp only [Int.toNat_natCast]
    refine ⟨⟨by decide, by omega, by unfold capOk; omega⟩, ?_⟩
    refine Loop.keep [0, 0, 3, 0] Nat (fun i => [(6, .int .i64 i)]) (fun i => [(0, .own false 1 (n + m + 1) (fun k => [.int .u32 (dig ((a % 4294967296 ^ i) * b) k)]))]) [] (fun i => i ≤ n) (fun i => n - i) ?_ ?_
    · refine ⟨0, by omega, ?_⟩
      (try dsimp only [go_sem, reduceIte])
      simp only [fin_all, imp_self, implies_true, true_and, and_true]
      simp [Nat.mod_one, dig_zero, leL, le]
    · rintro i hi
      (try dsimp only [R1_ct39, R1_ct24, limbC, trimC, natS, Int.toNat_natCast, go_sem, reduceIte])
      (try simp only [t_all, forall_const, ne_eq, implies_true, Nat.reduceAdd, Nat.reduceLeDiff, reduceCtorEq, Nat.reduceEqDiff])
      refine ⟨fun hlt => ?_, fun hge => ?_⟩
      · refine Loop.keep [0, 0, 3, 0, 0, 0] (Nat × Nat × Nat) (fun x => [(7, .int .u64 x.2.2), (8, .int .i64 x.1)]) (fun x => [(0, .own false 1 (n + m + 1) (fun k => [.int .u32 (dig x.2.1 k)]))]) [] (fun x => x.1 ≤ m + 1 ∧ x.2.2 < 4294967296 ∧ x.2.1 < 4294967296 ^ (n + m + 1) ∧ x.2.1 + x.2.2 * 4294967296 ^ (i + x.1) = (a % 4294967296 ^ i) * b + dig a i * (b % 4294967296 ^ x.1) * 4294967296 ^ i) (fun x => m + 1 - x.1) ?_ ?_
        · refine ⟨(0, (a % 4294967296 ^ i) * b, 0), ⟨by simp only; omega, by simp only; omega, ?_, by simp [Nat.mod_one]⟩, ?_⟩
          · exact mul_lt hi ha hb
          · (try dsimp only [go_sem, reduceIte])
            simp only [fin_all, imp_self, implies_true, true_and, and_true]
            simp [leL, le]
        · rintro ⟨t, V, c⟩ ⟨ht, hc, hV, he⟩
          dsimp only at ht hc hV he
          (try dsimp only [R1_ct39, R1_ct24, limbC, trimC, natS, Int.toNat_natCast, go_sem, reduceIte])
          (try simp only [t_all, forall_const, ne_eq, implies_true, Nat.reduceAdd, Nat.reduceLeDiff, reduceCtorEq, Nat.reduceEqDiff])
          rw [IntWalk.i64_in ((m : Int) + 1) (by omega)]
          refine ⟨fun hlt2 => ?_, fun hge2 => ?_⟩
          · have w1 : IntKind.i64.wrap ((i : Int) + (t : Int)) = ((i + t : Nat) : Int) := by rw [IntWalk.i64_in _ (by omega)]; simp
            rw [w1]
            simp only [Int.toNat_natCast]
            have hd0 := dig_lt V (i + t)
            obtain ⟨hb1, hb2⟩ := mul_bound hd0 (dig_lt a i) (dig_lt b t) hc
            have hs := mul_step he
            refine ⟨⟨by omega, by omega⟩, by omega, a, ⟨padP_self hn ha, by omega⟩, b, ⟨padP_self hm hb, by omega⟩, by decide, ⟨by omega, by omega⟩, by omega, by decide,
              (t + 1, setD V (i + t) ((dig V (i + t) + dig a i * dig b t + c) % 4294967296), (dig V (i + t) + dig a i * dig b t + c) / 4294967296), ⟨by simp only; omega, hb2, setD_lt hV (Nat.mod_lt _ (by decide)) (by omega), hs⟩, by simp only; omega, ?_⟩
            rw [u_nat (by omega : dig V (i + t) < 18446744073709551616), u_mul (by omega), u_add (by omega), u_add (by omega), u3_rem, u_quo (by omega), IntWalk.i64_in ((t : Int) + 1) (by omega)]
            simp only [fin_all, imp_self, implies_true, true_and, and_true]
            refine ⟨by simp, fun j hj => ?_⟩
            rw [dig_setD (Nat.mod_lt _ (by decide))]
            split <;> simp only [leL, le, and_self]
          · obtain rfl : t = m + 1 := by omega
            have hbm : b % 4294967296 ^ (m + 1) = b := Nat.mod_eq_of_lt (Nat.lt_of_lt_of_le hb (Nat.pow_le_pow_right (by decide) (by omega)))
            rw [hbm] at he
            have hrow : (a % 4294967296 ^ (i + 1)) * b = (a % 4294967296 ^ i) * b + dig a i * b * 4294967296 ^ i := by
              rw [mod_pw, Nat.add_mul, Nat.mul_assoc, Nat.mul_comm (4294967296 ^ i)]
            rw [← hrow] at he
            have hlt3 : (a % 4294967296 ^ (i + 1)) * b < 4294967296 ^ (i + (m + 1)) := by
              have h1 := Nat.mod_lt a (pw_pos (i + 1))
              have h2 : (a % 4294967296 ^ (i + 1)) * b ≤ (a % 4294967296 ^ (i + 1)) * 4294967296 ^ m := Nat.mul_le_mul_left _ (Nat.le_of_lt hb)
              have h3 : (a % 4294967296 ^ (i + 1)) * 4294967296 ^ m < 4294967296 ^ (i + 1) * 4294967296 ^ m := Nat.mul_lt_mul_of_pos_right h1 (pw_pos m)
              rw [← Nat.pow_add, show i + 1 + m = i + (m + 1) by omega] at h3
              omega
            obtain rfl : c = 0 := by
              rcases Nat.eq_zero_or_pos c with h0 | h0
              · exact h0
              · have : 1 * 4294967296 ^ (i + (m + 1)) ≤ c * 4294967296 ^ (i + (m + 1)) := Nat.mul_le_mul_right _ h0
                omega
            rw [Nat.zero_mul, Nat.add_zero] at he
            refine ⟨i + 1, by omega, by omega, ?_⟩
            rw [he, IntWalk.i64_in ((i : Int) + 1) (by omega)]
            simp only [fin_all, imp_self, implies_true, true_and, and_true]
            simp [leL, le]
      · obtain rfl : i = n := by omega
        refine ⟨a * b, ?_, ans_natS (t := true) h⟩
        rw [Nat.mod_eq_of_lt ha]
        exact padP_self (by omega) (by have := mul_lt (Nat.le_refl i) ha hb; rwa [Nat.mod_eq_of_lt ha] at this)
  · exact h.1.elim
end Go.Proofs.Ytmgfmkbniaepcaa
set_option linter.all false
namespace Go.Proofs.Ytmgfmkbniaepcaa
open Go Go.Vx
set_option maxRecDepth 100000
set_option maxHeartbeats 4000000
def v25 : VF := { ntmps := 25, res := [.tmp 2], body :=
 (.seq (.region [u1 2 .mov [.cn (.int .i64 0)]])
 (.seq (.seq (.region [u1 5 .mov [.tm 0],
 u1 6 .len [.tm 5],
 u1 7 (.cmp .eql) [.tm 6, .cn (.int .i64 0)]])
 (.cond (.tm 7) (.seq (.region [u1 2 .mov [.cn (.int .i64 0)]])
 .ret)
  .skip))
 (.seq (.draw [] [w1 8 .mov [.tm 0],
 w1 9 .len [.tm 8],
 w1 10 (.ari .sub) [.tm 9, .cn (.int .i64 1)],
 w1 11 (.ari .mul) [.cn (.int .i64 32), .tm 10],
 w1 12 .mov [.tm 0],
 w1 13 .mov [.tm 0],
 w1 14 .len [.tm 13],
 w1 15 (.ari .sub) [.tm 14, .cn (.int .i64 1)],
 w1 16 (.idxAddr 1) [.tm 12, .tm 15],
 w1 17 (.load false 1) [.tm 16],
 w1 3 .mov [.tm 11],
 w1 4 .mov [.tm 17]])
 (.seq (.block 0 (.loop (.seq (.seq (.region [u1 18 .mov [.tm 4],
 u1 19 (.cmp .gtr) [.tm 18, .cn (.int .u32 0)]])
 (.cond (.tm 19) .skip
  (.exit 0)))
 (.block 1 (.seq (.region [u1 20 .mov [.tm 3],
 u1 21 (.ari .add) [.tm 20, .cn (.int .i64 1)],
 u1 3 .mov [.tm 21]])
 (.region [u1 22 .mov [.tm 4],
 u1 23 .quo [.tm 22, .cn (.int .u32 2)],
 u1 4 .mov [.tm 23]]))))))
 (.seq (.region [u1 24 .mov [.tm 3],
 u1 2 .mov [.tm 24]])
 .ret))))) }
theorem v25_is : vfunc Try.prog Try.f25 = some v25 := by kernel_rfl
def v26 : VF := { ntmps := 14, res := [.tmp 4], body :=
 (.seq (.region [u1 4 .mov [.cn (.int .u32 0)]])
 (.seq (.region [u1 5 .mov [.tm 0],
 u1 6 .mov [.tm 1],
 u1 7 .quo [.tm 6, .cn (.int .i64 32)],
 u1 8 (.idxAddr 1) [.tm 5, .tm 7],
 u1 9 (.load false 1) [.tm 8],
 u1 10 .mov [.tm 1],
 u1 11 .rem [.tm 10, .cn (.int .i64 32)],
 u1 12 .shr [.tm 9, .tm 11],
 u1 13 (.bit .and) [.tm 12, .cn (.int .u32 1)],
 u1 4 .mov [.tm 13]])
 .ret)) }
theorem v26_is : vfunc Try.prog Try.f26 = some v26 := by kernel_rfl
def sizeC : Ctr := { alias := false, of := fun l => match l with
  | [.vs _ _ n sz get] => .ex Nat fun a => .pre (padP a n sz get ∧ n = nl a) (.fin (.int .i64 (bitsN a)) [])
  | _ => noC }
def bitC : Ctr := { alias := false, of := fun l => match l with
  | [.vs _ _ n sz get, .int .i64 i] => .ex Nat fun a => .pre (padP a n sz get ∧ 0 ≤ i ∧ i < 32 * n) (.fin (.int .u32 (bitN a i.toNat)) [])
  | _ => noC }
theorem size_ok : sizeC.ok Try.prog 25 := by
  refine contract Try.func25 v25_is R1_ok 200 sizeC fun args k h => ?_
  simp only [sizeC] at h
  split at h
  · rename_i t1 z1 n sz get
    obtain ⟨a, ⟨⟨rfl, hn, ha, hg⟩, rfl⟩, h⟩ := h
    refine ⟨[.vs t1 z1 (nl a) 1 (fun k => [.int .u32 (dig a k)])], by simpa [leL, le] using hg, ?_⟩
    (try dsimp only [v25, go_sem, reduceIte])
    (try simp only [t_all, forall_const, ne_eq, implies_true, Nat.reduceAdd, Nat.reduceLeDiff, reduceCtorEq, Nat.reduceEqDiff])
    refine ⟨fun h0 => ans_int ?_, fun h0 => ?_⟩
    · have : a = 0 := nl_eq0.1 (by omega)
      subst this
      exact h
    · obtain ⟨m, hm⟩ : ∃ m, nl a = m + 1 := ⟨nl a - 1, by omega⟩
      have w1 : IntKind.i64.wrap ((nl a : Int) - 1) = (m : Int) := by rw [IntWalk.i64_in _ (by omega)]; omega
      rw [w1]
      simp only [Int.toNat_natCast]
      refine ⟨⟨by omega, by omega⟩, ?_⟩
      refine Loop.keep [3, 0] (Nat × Nat) (fun x => [(3, .int .i64 x.1), (4, .int .u32 x.2)]) (fun _ => []) [] (fun x => x.1 + bitsN x.2 = bitsN a ∧ x.2 < 4294967296) (fun x => bitsN x.2) ?_ ?_
      · refine ⟨(32 * m, dig a m), ⟨(bitsN_top hm).symm, dig_lt _ _⟩, ?_⟩
        (try dsimp only [go_sem, reduceIte])
        simp only [fin_all, imp_self, implies_true, true_and, and_true]
        rw [IntWalk.i64_in _ (by omega)]
        simp
      · rintro ⟨c, t⟩ ⟨hc, ht⟩
        dsimp only at hc ht
        (try dsimp only [go_sem, reduceIte])
        (try simp only [t_all, forall_const, ne_eq, implies_true, Nat.reduceAdd, Nat.reduceLeDiff, reduceCtorEq, Nat.reduceEqDiff])
        have hbl : bitsN a ≤ 32 * 100000 := Nat.le_trans (bitsN_nl a) (by omega)
        refine ⟨fun hpos => ?_, fun hz => ans_int ?_⟩
        · have hh := bitsN_half (a := t) (by omega)
          refine ⟨by decide, (c + 1, t / 2), ⟨by simp only; omega, by simp only; omega⟩, by simp only; omega, ?_⟩
          have e2 : IntKind.u32.wrap ((t : Int).tdiv 2) = ((t / 2 : Nat) : Int) := by
            have : (t : Int).tdiv 2 = ((t / 2 : Nat) : Int) := IntWalk.up_tdiv (y := 2) rfl rfl
            rw [this]; exact u3_nat (by omega)
          rw [e2, IntWalk.i64_in _ (by omega)]
          simp only [fin_all, imp_self, implies_true, true_and, and_true]
          simp
        · obtain rfl : t = 0 := by omega
          rw [bitsN_0, Nat.add_zero] at hc
          rw [← hc] at h
          exact h
  · exact h.1.elim
theorem bit_ok : bitC.ok Try.prog 26 := by
  refine contract Try.func26 v26_is R1_ok 200 bitC fun args k h => ?_
  simp only [bitC] at h
  split at h
  · rename_i t1 z1 n sz get i
    obtain ⟨a, ⟨⟨rfl, hn, ha, hg⟩, h0, h1⟩, h⟩ := h
    obtain ⟨i, rfl⟩ := Int.eq_ofNat_of_zero_le h0
    refine ⟨[.vs t1 z1 n 1 (fun k => [.int .u32 (dig a k)]), .int .i64 i], ⟨by simpa [le] using hg, ⟨rfl, rfl⟩, trivial⟩, ?_⟩
    (try dsimp only [v26, go_sem, reduceIte])
    (try simp only [t_all, forall_const, ne_eq, implies_true, Nat.reduceAdd, Nat.reduceLeDiff, reduceCtorEq, Nat.reduceEqDiff])
    have e1 : IntKind.i64.wrap ((i : Int).tdiv 32) = ((i / 32 : Nat) : Int) := by
      have : (i : Int).tdiv 32 = ((i / 32 : Nat) : Int) := IntWalk.up_tdiv (y := 32) rfl rfl
      rw [this, IntWalk.i64_in _ (by omega)]
    have e2 : (i : Int).tmod 32 = ((i % 32 : Nat) : Int) := IntWalk.up_tmod (y := 32) rfl rfl
    rw [e1, e2]
    simp only [Int.toNat_natCast]
    refine ⟨by decide, ⟨by omega, by omega⟩, by decide, by omega, ans_int ?_⟩
    have e3 : ((dig a (i / 32) : Nat) : Int).fdiv (2 ^ min (i % 32) 32) = ((dig a (i / 32) / 2 ^ (i % 32) : Nat) : Int) := by
      have : min (i % 32) 32 = i % 32 := by omega
      rw [this, Int.fdiv_eq_ediv_of_nonneg _ (Int.le_of_lt (Int.pow_pos (by decide)))]
      simp
    rw [e3]
    have h9 : bitI .and .u32 ((dig a (i / 32) / 2 ^ (i % 32) : Nat) : Int) 1 = (bitN a i : Int) := by
      have := and_one (dig a (i / 32) / 2 ^ (i % 32))
      rw [bitN_dig]; exact this
    rw [h9]
    exact h
  · exact h.1.elim
end Go.Proofs.Ytmgfmkbniaepcaa
set_option linter.all false
namespace Go.Proofs.Ytmgfmkbniaepcaa
open Go Go.Vx
set_option maxRecDepth 100000
set_option maxHeartbeats 4000000
def v37 : VF := { ntmps := 20, res := [.tmp 2], body :=
 (.seq (.region [u1 2 .mov [.cn (.bool false)]])
 (.seq (.region [u1 3 .mov [.tm 0],
 u1 4 .len [.tm 3],
 u1 5 (.cmp .leq) [.tm 4, .cn (.int .i64 512)],
 u1 6 .mov [.tm 5],
 u2 7 6 true .mov [.tm 0],
 u2 8 6 true .len [.tm 7],
 u2 9 6 true (.cmp .eql) [.tm 8, .cn (.int .i64 0)],
 u2 10 6 true .mov [.tm 9],
 u2 11 10 false .mov [.tm 0],
 u2 12 10 false .mov [.tm 0],
 u2 13 10 false .len [.tm 12],
 u2 14 10 false (.ari .sub) [.tm 13, .cn (.int .i64 1)],
 u2 15 10 false (.idxAddr 1) [.tm 11, .tm 14],
 u2 16 10 false (.load false 1) [.tm 15],
 u2 17 10 false (.cmp .neq) [.tm 16, .cn (.int .u32 0)],
 u2 18 6 true .or [.tm 10, .tm 17],
 u1 19 .and [.tm 6, .tm 18],
 u1 2 .mov [.tm 19]])
 .ret)) }
theorem v37_is : vfunc Try.prog Try.f37 = some v37 := by kernel_rfl
abbrev Fr := Int × Nat
def natV (t z : Bool) (a : Nat) : SV := .vs t z (nl a) 1 (fun k => [.int .u32 (dig a k)])
def validC : Ctr := { alias := false, of := fun l => match l with
  | [.vs _ _ n sz get] => .ex Nat fun a => .pre (padP a n sz get) (.fin (.bool (decide (n ≤ 512) && decide (n = nl a))) [])
  | _ => noC }
theorem valid_ok : validC.ok Try.prog 37 := by
  refine contract Try.func37 v37_is R1_ok 200 validC fun args k h => ?_
  simp only [validC] at h
  split at h
  · rename_i t1 z1 n sz get
    obtain ⟨a, ⟨rfl, hn, ha, hg⟩, h⟩ := h
    refine ⟨[.vs t1 z1 n 1 (fun k => [.int .u32 (dig a k)])], by simpa [leL, le] using hg, ?_⟩
    (try dsimp only [v37, go_sem, reduceIte])
    (try simp only [t_all, forall_const, ne_eq, implies_true, Nat.reduceAdd, Nat.reduceLeDiff, reduceCtorEq, Nat.reduceEqDiff])
    have e : (decide ((n : Int) = 0) || !decide (((dig a (IntKind.i64.wrap ((n : Int) - 1)).toNat : Nat) : Int) = 0)) = decide (n = nl a) := by
      rcases Nat.eq_zero_or_pos n with h0 | h0
      · subst h0
        have := padP_0 (a := a) (sz := 1) (get := get) ⟨rfl, hn, ha, hg⟩
        subst this
        simp [nl_0]
      · rw [w_pred h0 (by omega), Int.toNat_natCast, decide_eq_false (by omega : ¬ (n : Int) = 0), Bool.false_or, Bool.eq_iff_iff, Bool.not_eq_true', decide_eq_false_iff_not, decide_eq_true_eq]
        constructor
        · intro hne
          exact (nl_trim ha (.inr (by omega))).symm
        · rintro rfl
          have := nl_top (a := a) (by rintro rfl; simp [nl_0] at h0)
          omega
    refine ⟨fun hb => ?_, fun h1 h2 => by rw [decide_eq_true h1, decide_eq_false h2]; rfl, ?_⟩
    · simp only [Bool.and_eq_true, decide_eq_true_eq, Bool.not_eq_true', decide_eq_false_iff_not] at hb
      rw [w_pred (by omega) (by omega)]; omega
    · rw [e]
      have e2 : decide ((n : Int) ≤ 512) = decide (n ≤ 512) := by congr 1; exact propext (by omega)
      rw [e2]
      exact ans_bool h
  · exact h.1.elim
end Go.Proofs.Ytmgfmkbniaepcaa
set_option linter.all false
namespace Go.Proofs.Ytmgfmkbniaepcaa
open Go Go.Vx
set_option maxRecDepth 100000
set_option maxHeartbeats 4000000
theorem ans_ii {k : SV → List HO → Prop} {al : Bool} {hp : List HO} {κ κ' : IntKind} {x y : Int} (h : k (.tup [.int κ x, .int κ' y]) []) : answers al k (.tup [.int κ x, .int κ' y]) hp :=
  ans_le (show k _ [] from h) (le_self (.tup [.int κ x, .int κ' y]) ⟨trivial, trivial, trivial⟩) (fun _ => by simp [freshS, freshL])
end Go.Proofs.Ytmgfmkbniaepcaa
set_option linter.all false
namespace Go.Proofs.Ytmgfmkbniaepcaa
open Go Go.Vx
set_option maxRecDepth 100000
set_option maxHeartbeats 4000000
def v22 : VF := { ntmps := 29, res := [.tmp 2], body :=
 (.seq (.region [u1 2 .mov [.cn (.int .i64 0)]])
 (.seq (.seq (.region [u1 3 .mov [.cn (.int .i64 0)]])
 (.block 0 (.loop (.seq (.seq (.region [u1 5 .mov [.tm 3],
 u1 6 .mov [.tm 0],
 u1 7 .len [.tm 6],
 u1 8 (.cmp .lss) [.tm 5, .tm 7]])
 (.cond (.tm 8) .skip
  (.exit 0)))
 (.seq (.block 1 (.seq (.region [u1 11 .mov [.tm 0],
 u1 12 .mov [.tm 3],
 u1 13 (.idxAddr 1) [.tm 11, .tm 12],
 u1 14 (.load false 1) [.tm 13],
 u1 15 .len [.tm 14],
 u1 16 (.cmp .gtr) [.tm 15, .cn (.int .i64 512)]])
 (.cond (.tm 16) (.seq (.region [u1 2 .mov [.cn (.int .i64 3)]])
 .ret)
  .skip)))
 (.region [u1 9 .mov [.tm 3],
 u1 10 (.ari .add) [.tm 9, .cn (.int .i64 1)],
 u1 3 .mov [.tm 10]]))))))
 (.seq (.seq (.region [u1 4 .mov [.cn (.int .i64 0)]])
 (.block 2 (.loop (.seq (.seq (.region [u1 17 .mov [.tm 4],
 u1 18 .mov [.tm 0],
 u1 19 .len [.tm 18],
 u1 20 (.cmp .lss) [.tm 17, .tm 19]])
 (.cond (.tm 20) .skip
  (.exit 2)))
 (.seq (.block 3 (.seq (.region [u1 23 .mov [.tm 0],
 u1 24 .mov [.tm 4],
 u1 25 (.idxAddr 1) [.tm 23, .tm 24],
 u1 26 (.load false 1) [.tm 25],
 u1 27 (.call 37) [.tm 26],
 u1 28 .not [.tm 27]])
 (.cond (.tm 28) (.seq (.region [u1 2 .mov [.cn (.int .i64 2)]])
 .ret)
  .skip)))
 (.region [u1 21 .mov [.tm 4],
 u1 22 (.ari .add) [.tm 21, .cn (.int .i64 1)],
 u1 4 .mov [.tm 22]]))))))
 (.seq (.region [u1 2 .mov [.cn (.int .i64 0)]])
 .ret)))) }
theorem v22_is : vfunc Try.prog Try.f22 = some v22 := by kernel_rfl
def encN (p : Bool × Nat) : List SV := [natV false p.1 p.2]
def badnC : Ctr := { alias := false, of := fun l => match l with
  | [.vs _ _ n sz get] => .ex (List (Bool × Nat)) fun l => .pre (lsP 1 encN n sz get l ∧ l.length ≤ 1000 ∧ ∀ p ∈ l, nl p.2 ≤ 512) (.fin (.int .i64 0) [])
  | _ => noC }
def R7 : Env := { ct := fun n => match n with | 38 => some timesC | 27 => some orderC | 37 => some validC | _ => none, fn := fun _ => none, meth := fun _ _ => none }
theorem R7_ct37 : R7.ct 37 = some validC := rfl
theorem R7_ok : EnvOk Try.prog R7 := by
  refine ⟨fun f c h => ?_, fun f vf h => ?_, (fun _ _ _ h => by cases h), by kernel_rfl, (fun _ h => by cases h)⟩
  · simp only [R7] at h
    split at h
    · cases h; exact ⟨times_ok, Try.f38, Try.func38, by kernel_rfl, by kernel_rfl⟩
    · cases h; exact ⟨order_ok, Try.f27, Try.func27, by kernel_rfl, by kernel_rfl⟩
    · cases h; exact ⟨valid_ok, Try.f37, Try.func37, by kernel_rfl, by kernel_rfl⟩
    · cases h
  · cases h
theorem bad_ok : badnC.ok Try.prog 22 := by
  refine contract Try.func22 v22_is R7_ok 300 badnC fun args k h => ?_
  simp only [badnC] at h
  split at h
  · rename_i tt z n sz get
    obtain ⟨l, ⟨⟨rfl, rfl, hg⟩, hmax, hok⟩, h⟩ := h
    refine ⟨[.vs tt z l.length 1 (fun k => encN (l.getD k default))], by simpa [leL, le] using hg, ?_⟩
    (try dsimp only [v22, go_sem, reduceIte])
    (try simp only [t_all, forall_const, ne_eq, implies_true, Nat.reduceAdd, Nat.reduceLeDiff, reduceCtorEq, Nat.reduceEqDiff])
    refine Loop.keep [0, 2] Nat (fun i => [(3, .int .i64 i)]) (fun _ => []) [] (fun i => i ≤ l.length) (fun i => l.length - i) ?_ ?_
    · refine ⟨0, by omega, ?_⟩
      (try dsimp only [go_sem, reduceIte])
      simp only [fin_all, imp_self, implies_true, true_and, and_true] <;> simp
    · rintro i hi
      (try dsimp only [encN, natV, Int.toNat_natCast, go_sem, reduceIte])
      (try simp only [t_all, forall_const, ne_eq, implies_true, Nat.reduceAdd, Nat.reduceLeDiff, reduceCtorEq, Nat.reduceEqDiff])
      refine ⟨fun hlt => ?_, fun hge => ?_⟩
      · have hl1 := hok _ (getD_mem (by omega : i < l.length))
        refine ⟨⟨by omega, by omega⟩, fun hb => by omega, fun _ => ⟨i + 1, by omega, by omega, ?_⟩⟩
        rw [w_succ (n := l.length) (by omega) (by omega)]
        simp only [fin_all, imp_self, implies_true, true_and, and_true] <;> simp
      · refine Loop.keep [0, 3] Nat (fun i => [(4, .int .i64 i)]) (fun _ => []) [] (fun i => i ≤ l.length) (fun i => l.length - i) ?_ ?_
        · refine ⟨0, by omega, ?_⟩
          (try dsimp only [go_sem, reduceIte])
          simp only [fin_all, imp_self, implies_true, true_and, and_true] <;> simp
        · rintro i hi
          (try dsimp only [R7_ct37, validC, encN, natV, Int.toNat_natCast, go_sem, reduceIte])
          (try simp only [t_all, forall_const, ne_eq, implies_true, Nat.reduceAdd, Nat.reduceLeDiff, reduceCtorEq, Nat.reduceEqDiff])
          refine ⟨fun hlt => ?_, fun hge => ans_int h⟩
          have hl1 := hok _ (getD_mem (by omega : i < l.length))
          refine ⟨⟨by omega, by omega⟩, (l.getD i default).2, padP_nl (by omega), fun hb => ?_, fun _ => ⟨i + 1, by omega, by omega, ?_⟩⟩
          · rw [decide_eq_true hl1] at hb; simp at hb
          · rw [w_succ (n := l.length) (by omega) (by omega)]
            simp only [fin_all, imp_self, implies_true, true_and, and_true] <;> simp
  · exact h.1.elim
end Go.Proofs.Ytmgfmkbniaepcaa
set_option linter.all false
namespace Go.Proofs.Ytmgfmkbniaepcaa
open Go Go.Vx
set_option maxRecDepth 100000
set_option maxHeartbeats 4000000
theorem bitLenAux_eq : ∀ (f x : Nat), x < 2 ^ f → Lib.bitLenAux f x = bitsN x
  | 0, x, h => by
    have : x = 0 := by simpa using h
    subst this; rfl
  | f + 1, x, h => by
    rw [Lib.bitLenAux]
    split
    · rename_i h0; subst h0; rfl
    · rename_i h0
      rw [Nat.pow_succ] at h
      rw [bitLenAux_eq f (x / 2) (by omega), bitsN_half (a := x) (by omega)]; omega
theorem bitLen_eq {x : Nat} (h : x < 18446744073709551616) : Lib.bitLen x = bitsN x := bitLenAux_eq 64 x h
def len64C : Ctr := { alias := false, of := fun l => match l with
  | [.int .u64 x] => .pre (0 ≤ x ∧ x ≤ 18446744073709551615) (.fin (.int .i64 (bitsN x.toNat)) [])
  | _ => noC }
theorem len64_ok : len64C.ok Try.prog 73 := by
  intro args vs z k hsat hx hc
  simp only [len64C] at hc
  split at hc
  · rename_i x
    obtain ⟨⟨h0, h1⟩, hc⟩ := hc
    cases hx with | cons _ v _ l g1 hx =>
    cases hx
    cases g1
    refine (len64_calls x z.toWorld h0 h1).mono ?_
    rintro e w' ⟨rfl, rfl⟩
    rw [bitLen_eq (by omega)]
    exact ⟨_, [], _, [], z.I, ext_refl z, hc, rfl, .x _ _ (.int _ _), hp0 (hJ := ext_refl z) hsat, BelowI.refl _ _, fun _ => ⟨trivial, trivial⟩⟩
  · exact hc.1.elim
def v72 : VF := { ntmps := 6, res := [.tmp 2], body :=
 (.seq (.region [u1 2 .mov [.cn (.int .i64 0)]])
 (.seq (.region [u1 3 .mov [.tm 0],
 u1 4 (.call 73) [.tm 3],
 u1 5 (.ari .sub) [.cn (.int .i64 64), .tm 4],
 u1 2 .mov [.tm 5]])
 .ret)) }
theorem v72_is : vfunc Try.prog Try.f72 = some v72 := by kernel_rfl
def v56 : VF := { ntmps := 51, res := [.tmp 4, .tmp 5], body :=
 (.seq (.region [u1 4 .mov [.cn (.int .u64 0)],
 u1 5 .mov [.cn (.int .u64 0)]])
 (.seq (.region [u1 14 .mov [.tm 0],
 u1 15 (.bit .and) [.tm 14, .cn (.int .u64 4294967295)],
 u1 6 .mov [.tm 15]])
 (.seq (.region [u1 16 .mov [.tm 0],
 u1 17 .shr [.tm 16, .cn (.int .u64 32)],
 u1 7 .mov [.tm 17]])
 (.seq (.region [u1 18 .mov [.tm 1],
 u1 19 (.bit .and) [.tm 18, .cn (.int .u64 4294967295)],
 u1 8 .mov [.tm 19]])
 (.seq (.region [u1 20 .mov [.tm 1],
 u1 21 .shr [.tm 20, .cn (.int .u64 32)],
 u1 9 .mov [.tm 21]])
 (.seq (.region [u1 22 .mov [.tm 6],
 u1 23 .mov [.tm 8],
 u1 24 (.ari .mul) [.tm 22, .tm 23],
 u1 10 .mov [.tm 24]])
 (.seq (.region [u1 25 .mov [.tm 7],
 u1 26 .mov [.tm 8],
 u1 27 (.ari .mul) [.tm 25, .tm 26],
 u1 28 .mov [.tm 10],
 u1 29 .shr [.tm 28, .cn (.int .u64 32)],
 u1 30 (.ari .add) [.tm 27, .tm 29],
 u1 11 .mov [.tm 30]])
 (.seq (.region [u1 31 .mov [.tm 11],
 u1 32 (.bit .and) [.tm 31, .cn (.int .u64 4294967295)],
 u1 12 .mov [.tm 32]])
 (.seq (.region [u1 33 .mov [.tm 11],
 u1 34 .shr [.tm 33, .cn (.int .u64 32)],
 u1 13 .mov [.tm 34]])
 (.seq (.region [u1 35 .mov [.tm 12],
 u1 36 .mov [.tm 6],
 u1 37 .mov [.tm 9],
 u1 38 (.ari .mul) [.tm 36, .tm 37],
 u1 39 (.ari .add) [.tm 35, .tm 38],
 u1 12 .mov [.tm 39]])
 (.seq (.region [u1 40 .mov [.tm 7],
 u1 41 .mov [.tm 9],
 u1 42 (.ari .mul) [.tm 40, .tm 41],
 u1 43 .mov [.tm 13],
 u1 44 (.ari .add) [.tm 42, .tm 43],
 u1 45 .mov [.tm 12],
 u1 46 .shr [.tm 45, .cn (.int .u64 32)],
 u1 47 (.ari .add) [.tm 44, .tm 46],
 u1 4 .mov [.tm 47]])
 (.seq (.region [u1 48 .mov [.tm 0],
 u1 49 .mov [.tm 1],
 u1 50 (.ari .mul) [.tm 48, .tm 49],
 u1 5 .mov [.tm 50]])
 .ret)))))))))))) }
theorem v56_is : vfunc Try.prog Try.f56 = some v56 := by kernel_rfl
def v62 : VF := { ntmps := 135, res := [.tmp 6, .tmp 7], body :=
 (.seq (.region [u1 6 .mov [.cn (.int .u64 0)],
 u1 7 .mov [.cn (.int .u64 0)]])
 (.seq (.seq (.region [u1 19 .mov [.tm 2],
 u1 20 (.cmp .eql) [.tm 19, .cn (.int .u64 0)]])
 (.cond (.tm 20) .stuck
  .skip))
 (.seq (.seq (.region [u1 22 .mov [.tm 2],
 u1 23 .mov [.tm 0],
 u1 24 (.cmp .leq) [.tm 22, .tm 23]])
 (.cond (.tm 24) .stuck
  .skip))
 (.seq (.seq (.region [u1 26 .mov [.tm 0],
 u1 27 (.cmp .eql) [.tm 26, .cn (.int .u64 0)]])
 (.cond (.tm 27) (.seq (.draw [] [w1 28 .mov [.tm 1],
 w1 29 .mov [.tm 2],
 w1 30 .quo [.tm 28, .tm 29],
 w1 31 .mov [.tm 1],
 w1 32 .mov [.tm 2],
 w1 33 .rem [.tm 31, .tm 32],
 w1 6 .mov [.tm 30],
 w1 7 .mov [.tm 33]])
 .ret)
  .skip))
 (.seq (.region [u1 34 .mov [.tm 2],
 u1 35 (.call 72) [.tm 34],
 u1 36 (.conv .u64) [.tm 35],
 u1 8 .mov [.tm 36]])
 (.seq (.region [u1 37 .mov [.tm 2],
 u1 38 .mov [.tm 8],
 u1 39 .shl [.tm 37, .tm 38],
 u1 2 .mov [.tm 39]])
 (.seq (.region [u1 40 .mov [.tm 2],
 u1 41 .shr [.tm 40, .cn (.int .u64 32)],
 u1 9 .mov [.tm 41]])
 (.seq (.region [u1 42 .mov [.tm 2],
 u1 43 (.bit .and) [.tm 42, .cn (.int .u64 4294967295)],
 u1 10 .mov [.tm 43]])
 (.seq (.region [u1 44 .mov [.tm 0],
 u1 45 .mov [.tm 8],
 u1 46 .shl [.tm 44, .tm 45],
 u1 47 .mov [.tm 1],
 u1 48 .mov [.tm 8],
 u1 49 (.ari .sub) [.cn (.int .u64 64), .tm 48],
 u1 50 .shr [.tm 47, .tm 49],
 u1 51 (.bit .or) [.tm 46, .tm 50],
 u1 11 .mov [.tm 51]])
 (.seq (.region [u1 52 .mov [.tm 1],
 u1 53 .mov [.tm 8],
 u1 54 .shl [.tm 52, .tm 53],
 u1 12 .mov [.tm 54]])
 (.seq (.region [u1 55 .mov [.tm 12],
 u1 56 .shr [.tm 55, .cn (.int .u64 32)],
 u1 13 .mov [.tm 56]])
 (.seq (.region [u1 57 .mov [.tm 12],
 u1 58 (.bit .and) [.tm 57, .cn (.int .u64 4294967295)],
 u1 14 .mov [.tm 58]])
 (.seq (.region [u1 59 .mov [.tm 11],
 u1 60 .mov [.tm 9],
 u1 61 .quo [.tm 59, .tm 60],
 u1 15 .mov [.tm 61]])
 (.seq (.region [u1 62 .mov [.tm 11],
 u1 63 .mov [.tm 15],
 u1 64 .mov [.tm 9],
 u1 65 (.ari .mul) [.tm 63, .tm 64],
 u1 66 (.ari .sub) [.tm 62, .tm 65],
 u1 16 .mov [.tm 66]])
 (.seq (.block 0 (.loop (.seq (.seq (.region [u1 67 .mov [.tm 15],
 u1 68 (.cmp .geq) [.tm 67, .cn (.int .u64 4294967296)],
 u1 69 .mov [.tm 68],
 u2 70 69 false .mov [.tm 15],
 u2 71 69 false .mov [.tm 10],
 u2 72 69 false (.ari .mul) [.tm 70, .tm 71],
 u2 73 69 false .mov [.tm 16],
 u2 74 69 false (.ari .mul) [.cn (.int .u64 4294967296), .tm 73],
 u2 75 69 false .mov [.tm 13],
 u2 76 69 false (.ari .add) [.tm 74, .tm 75],
 u2 77 69 false (.cmp .gtr) [.tm 72, .tm 76],
 u1 78 .or [.tm 69, .tm 77]])
 (.cond (.tm 78) .skip
  (.exit 0)))
 (.block 1 (.seq (.region [u1 79 .mov [.tm 15],
 u1 80 (.ari .sub) [.tm 79, .cn (.int .u64 1)],
 u1 15 .mov [.tm 80]])
 (.seq (.region [u1 81 .mov [.tm 16],
 u1 82 .mov [.tm 9],
 u1 83 (.ari .add) [.tm 81, .tm 82],
 u1 16 .mov [.tm 83]])
 (.seq (.region [u1 84 .mov [.tm 16],
 u1 85 (.cmp .geq) [.tm 84, .cn (.int .u64 4294967296)]])
 (.cond (.tm 85) (.exit 0)
  .skip))))))))
 (.seq (.region [u1 86 .mov [.tm 11],
 u1 87 (.ari .mul) [.tm 86, .cn (.int .u64 4294967296)],
 u1 88 .mov [.tm 13],
 u1 89 (.ari .add) [.tm 87, .tm 88],
 u1 90 .mov [.tm 15],
 u1 91 .mov [.tm 2],
 u1 92 (.ari .mul) [.tm 90, .tm 91],
 u1 93 (.ari .sub) [.tm 89, .tm 92],
 u1 17 .mov [.tm 93]])
 (.seq (.region [u1 94 .mov [.tm 17],
 u1 95 .mov [.tm 9],
 u1 96 .quo [.tm 94, .tm 95],
 u1 18 .mov [.tm 96]])
 (.seq (.region [u1 97 .mov [.tm 17],
 u1 98 .mov [.tm 18],
 u1 99 .mov [.tm 9],
 u1 100 (.ari .mul) [.tm 98, .tm 99],
 u1 101 (.ari .sub) [.tm 97, .tm 100],
 u1 16 .mov [.tm 101]])
 (.seq (.block 2 (.loop (.seq (.seq (.region [u1 102 .mov [.tm 18],
 u1 103 (.cmp .geq) [.tm 102, .cn (.int .u64 4294967296)],
 u1 104 .mov [.tm 103],
 u2 105 104 false .mov [.tm 18],
 u2 106 104 false .mov [.tm 10],
 u2 107 104 false (.ari .mul) [.tm 105, .tm 106],
 u2 108 104 false .mov [.tm 16],
 u2 109 104 false (.ari .mul) [.cn (.int .u64 4294967296), .tm 108],
 u2 110 104 false .mov [.tm 14],
 u2 111 104 false (.ari .add) [.tm 109, .tm 110],
 u2 112 104 false (.cmp .gtr) [.tm 107, .tm 111],
 u1 113 .or [.tm 104, .tm 112]])
 (.cond (.tm 113) .skip
  (.exit 2)))
 (.block 3 (.seq (.region [u1 114 .mov [.tm 18],
 u1 115 (.ari .sub) [.tm 114, .cn (.int .u64 1)],
 u1 18 .mov [.tm 115]])
 (.seq (.region [u1 116 .mov [.tm 16],
 u1 117 .mov [.tm 9],
 u1 118 (.ari .add) [.tm 116, .tm 117],
 u1 16 .mov [.tm 118]])
 (.seq (.region [u1 119 .mov [.tm 16],
 u1 120 (.cmp .geq) [.tm 119, .cn (.int .u64 4294967296)]])
 (.cond (.tm 120) (.exit 2)
  .skip))))))))
 (.seq (.region [u1 121 .mov [.tm 15],
 u1 122 (.ari .mul) [.tm 121, .cn (.int .u64 4294967296)],
 u1 123 .mov [.tm 18],
 u1 124 (.ari .add) [.tm 122, .tm 123],
 u1 125 .mov [.tm 17],
 u1 126 (.ari .mul) [.tm 125, .cn (.int .u64 4294967296)],
 u1 127 .mov [.tm 14],
 u1 128 (.ari .add) [.tm 126, .tm 127],
 u1 129 .mov [.tm 18],
 u1 130 .mov [.tm 2],
 u1 131 (.ari .mul) [.tm 129, .tm 130],
 u1 132 (.ari .sub) [.tm 128, .tm 131],
 u1 133 .mov [.tm 8],
 u1 134 .shr [.tm 132, .tm 133],
 u1 6 .mov [.tm 124],
 u1 7 .mov [.tm 134]])
 .ret)))))))))))))))))))) }
theorem v62_is : vfunc Try.prog Try.f62 = some v62 := by kernel_rfl
def lz64C : Ctr := { alias := false, of := fun l => match l with
  | [.int .u64 x] => .pre (0 ≤ x ∧ x ≤ 18446744073709551615) (.fin (.int .i64 (64 - (bitsN x.toNat : Int))) [])
  | _ => noC }
def mul64C : Ctr := { alias := false, of := fun l => match l with
  | [.int .u64 x, .int .u64 y] => .pre ((0 ≤ x ∧ x ≤ 18446744073709551615) ∧ 0 ≤ y ∧ y ≤ 18446744073709551615) (.fin (.tup [.int .u64 (x * y / 18446744073709551616), .int .u64 (x * y % 18446744073709551616)]) [])
  | _ => noC }
def div64C : Ctr := { alias := false, of := fun l => match l with
  | [.int .u64 h, .int .u64 x, .int .u64 y] => .pre ((0 ≤ x ∧ x ≤ 18446744073709551615) ∧ 0 ≤ h ∧ h < y ∧ y ≤ 18446744073709551615) (.fin (.tup [.int .u64 ((h * 18446744073709551616 + x) / y), .int .u64 ((h * 18446744073709551616 + x) % y)]) [])
  | _ => noC }
def B0 : Env := { ct := fun n => match n with | 73 => some len64C | _ => none, fn := fun _ => none, meth := fun _ _ => none }
theorem B0_ct73 : B0.ct 73 = some len64C := rfl
theorem B0_ok : EnvOk Try.prog B0 := by
  refine ⟨fun f c h => ?_, fun f vf h => ?_, (fun _ _ _ h => by cases h), by kernel_rfl, (fun _ h => by cases h)⟩
  · simp only [B0] at h
    split at h
    · cases h; exact ⟨len64_ok, Try.f73, Try.func73, by kernel_rfl, by kernel_rfl⟩
    · cases h
  · cases h
theorem lz64_ok : lz64C.ok Try.prog 72 := by
  refine contract Try.func72 v72_is B0_ok 100 lz64C fun args k h => ?_
  simp only [lz64C] at h
  split at h
  · rename_i x
    obtain ⟨⟨h0, h1⟩, h⟩ := h
    refine ⟨[.int .u64 x], by simp [leL, le], ?_⟩
    (try dsimp only [v72, B0_ct73, len64C, go_sem, reduceIte])
    (try simp only [t_all, forall_const, ne_eq, implies_true, Nat.reduceAdd, Nat.reduceLeDiff, reduceCtorEq, Nat.reduceEqDiff])
    refine ⟨⟨h0, h1⟩, ans_int ?_⟩
    have : bitsN x.toNat ≤ 64 := bitsN_le.2 (by have : (2 : Nat) ^ 64 = 18446744073709551616 := rfl; omega)
    rw [IntWalk.i64_in _ (by omega)]
    exact h
  · exact h.1.elim
theorem bI_and {x : Nat} (h : x < 18446744073709551616) : bitI .and .u64 (x : Int) 4294967295 = ((x % 4294967296 : Nat) : Int) := and_mask h
theorem bI_or {x y : Nat} (hx : x < 18446744073709551616) (hy : y < 18446744073709551616) : bitI .or .u64 (x : Int) (y : Int) = ((x ||| y : Nat) : Int) := or_nat6 hx hy
theorem mul64_ok : mul64C.ok Try.prog 56 := by
  refine contract Try.func56 v56_is B0_ok 200 mul64C fun args k h => ?_
  simp only [mul64C] at h
  split at h
  · rename_i x y
    obtain ⟨⟨⟨h0, h1⟩, h2, h3⟩, h⟩ := h
    obtain ⟨x, rfl⟩ := Int.eq_ofNat_of_zero_le h0
    obtain ⟨y, rfl⟩ := Int.eq_ofNat_of_zero_le h2
    refine ⟨[.int .u64 x, .int .u64 y], by simp [leL, le], ?_⟩
    (try dsimp only [v56, go_sem, reduceIte])
    (try simp only [t_all, forall_const, ne_eq, implies_true, Nat.reduceAdd, Nat.reduceLeDiff, reduceCtorEq, Nat.reduceEqDiff])
    have hx : x < 18446744073709551616 := by omega
    have hy : y < 18446744073709551616 := by omega
    obtain ⟨e, b1, b2, b3, b4, b5, b6, b7, b8⟩ := mul_hi hx hy
    have s32 : ∀ z : Nat, (z : Int).fdiv (2 ^ min (Int.toNat 32) IntKind.u64.bits) = ((z / 4294967296 : Nat) : Int) := fun z => shr_nat (s := 32) (by decide)
    have hm : ∀ z : Nat, z % 4294967296 < 18446744073709551616 := fun z => by omega
    try rw [show IntKind.u64.bits = 64 from rfl] at *
    rw [bI_and hx, bI_and hy, s32 x, s32 y, u_mul b1, s32 (x % 4294967296 * (y % 4294967296)), u_mul b2, u_add b3, s32 (x / 4294967296 * (y % 4294967296) + x % 4294967296 * (y % 4294967296) / 4294967296), bI_and b3, u_mul b4, u_add b5, s32, u_mul b6, u_add b7, u_add b8, e, u_mod]
    refine ⟨by decide, by decide, by decide, by decide, by decide, ?_⟩
    have h : k (.tup [.int .u64 ((x : Int) * y / 18446744073709551616), .int .u64 ((x : Int) * y % 18446744073709551616)]) [] := h
    have e2 : ((x * y / 18446744073709551616 : Nat) : Int) = (x : Int) * y / 18446744073709551616 := by
      rw [← Int.natCast_mul]; generalize x * y = z; omega
    rw [e2]
    exact ans_ii h
  · exact h.1.elim
def B2 : Env := { ct := fun n => match n with | 72 => some lz64C | _ => none, fn := fun _ => none, meth := fun _ _ => none }
theorem B2_ct72 : B2.ct 72 = some lz64C := rfl
theorem B2_ok : EnvOk Try.prog B2 := by
  refine ⟨fun f c h => ?_, fun f vf h => ?_, (fun _ _ _ h => by cases h), by kernel_rfl, (fun _ h => by cases h)⟩
  · simp only [B2] at h
    split at h
    · cases h; exact ⟨lz64_ok, Try.f72, Try.func72, by kernel_rfl, by kernel_rfl⟩
    · cases h
  · cases h
theorem div64_ok : div64C.ok Try.prog 62 := by
  refine contract Try.func62 v62_is B2_ok 300 div64C fun args k h => ?_
  simp only [div64C] at h
  split at h
  · rename_i hh x y
    obtain ⟨⟨⟨h0, h1⟩, h2, h3, h4⟩, h⟩ := h
    obtain ⟨x, rfl⟩ := Int.eq_ofNat_of_zero_le h0
    obtain ⟨hh, rfl⟩ := Int.eq_ofNat_of_zero_le h2
    obtain ⟨y, rfl⟩ := Int.eq_ofNat_of_zero_le (by omega : 0 ≤ y)
    refine ⟨[.int .u64 hh, .int .u64 x, .int .u64 y], by simp [leL, le], ?_⟩
    (try dsimp only [v62, B2_ct72, lz64C, go_sem, reduceIte])
    (try simp only [t_all, forall_const, ne_eq, implies_true, Nat.reduceAdd, Nat.reduceLeDiff, reduceCtorEq, Nat.reduceEqDiff])
    have hx : x < 18446744073709551616 := by omega
    have hy : y < 18446744073709551616 := by omega
    have hlt : hh < y := by omega
    try rw [show IntKind.u64.bits = 64 from rfl] at *
    refine ⟨fun hc => by omega, fun _ => ⟨fun hc => by omega, fun _ => ⟨fun hz => ?_, fun hz => ?_⟩⟩⟩
    · obtain rfl : hh = 0 := by omega
      have e1 : (x : Int).tdiv y = ((x / y : Nat) : Int) := IntWalk.up_tdiv rfl rfl
      have e2 : (x : Int).tmod y = ((x % y : Nat) : Int) := IntWalk.up_tmod rfl rfl
      have h : k (.tup [.int .u64 ((((0 : Nat) : Int) * 18446744073709551616 + x) / y), .int .u64 ((((0 : Nat) : Int) * 18446744073709551616 + x) % y)]) [] := h
      have e3 : ((0 : Nat) : Int) * 18446744073709551616 + x = x := by omega
      rw [e3] at h
      rw [e1, e2, u_nat (Nat.lt_of_le_of_lt (Nat.div_le_self _ _) hx)]
      refine ⟨by omega, by omega, ?_⟩
      exact ans_ii h
    · obtain ⟨s, hs⟩ : ∃ s, s = 64 - bitsN y := ⟨_, rfl⟩
      obtain ⟨f1, f2, f3⟩ := norm_facts hy (by omega)
      rw [← hs] at f2 f3
      have hs64 : s ≤ 64 := by omega
      obtain ⟨g1, g2, g3⟩ := hi_shift (h := hh) hs64 hx
      have hsh : hh * 2 ^ s < y * 2 ^ s := Nat.mul_lt_mul_of_pos_right hlt (p2_pos s)
      have es : IntKind.u64.wrap (64 - (bitsN ((y : Int)).toNat : Int)) = (s : Int) := by
        rw [Int.toNat_natCast, IntWalk.u64_in _ (by omega)]; omega
      have es2 : IntKind.u64.wrap (64 - (s : Int)) = ((64 - s : Nat) : Int) := by rw [IntWalk.u64_in _ (by omega)]; omega
      have sY := shl_nat hs64 f3
      have sH := shl_nat hs64 (Nat.lt_trans hsh f3)
      have sX1 := shr_nat (x := x) (s := 64 - s) (by omega)
      have hxs : x / 2 ^ (64 - s) < 18446744073709551616 := Nat.lt_of_le_of_lt (Nat.div_le_self _ _) hx
      have sO := bI_or (Nat.lt_trans hsh f3) hxs
      rw [g1] at sO
      have sX : IntKind.u64.wrap ((x : Int) * 2 ^ min s 64) = ((x * 2 ^ s % 18446744073709551616 : Nat) : Int) := by
        rw [Nat.min_eq_left hs64]
        have : (x : Int) * 2 ^ s = ((x * 2 ^ s : Nat) : Int) := by simp
        rw [this, u_modn]
      have s32 : ∀ z : Nat, (z : Int).fdiv (2 ^ min (Int.toNat 32) 64) = ((z / 4294967296 : Nat) : Int) := fun z => shr_nat (s := 32) (by decide)
      have mY := bI_and f3
      have mX := bI_and (Nat.mod_lt (x * 2 ^ s) (show 0 < 18446744073709551616 by omega))
      rw [es]
      simp only [Int.toNat_natCast, es2, sY, sH, sX1, sO, sX, s32, mY, mX]
      have hN := g3
      generalize hY : y * 2 ^ s = Y at f2 f3 hsh ⊢
      generalize hX : x * 2 ^ s % 18446744073709551616 = X at hN ⊢
      generalize hA : hh * 2 ^ s + x / 2 ^ (64 - s) = A at hN ⊢
      have hX6 : X < 18446744073709551616 := by rw [← hX]; exact Nat.mod_lt _ (show 0 < 18446744073709551616 by omega)
      have hAY : A < Y := by
        have : hh * 2 ^ s + 2 ^ s ≤ y * 2 ^ s := by rw [← Nat.succ_mul]; exact Nat.mul_le_mul_right _ hlt
        omega
      clear mY mX sX sO sX1 sH sY es es2 g1 g2 g3
      have y1a : 2147483648 ≤ Y / 4294967296 := by omega
      have y1b : Y / 4294967296 < 4294967296 := by omega
      have y1p : 0 < Y / 4294967296 := by omega
      have eY : Y / 4294967296 * 4294967296 + Y % 4294967296 = Y := Nat.div_add_mod' Y 4294967296
      have y0b : Y % 4294967296 < 4294967296 := by omega
      have u1b : X / 4294967296 < 4294967296 := by omega
      have u0b : X % 4294967296 < 4294967296 := by omega
      have hYp : 0 < Y := by omega
      have start := fun (a u : Nat) (ha : a < Y) (hu : u < 4294967296) => (dig_start (u := u) y1a y0b (by rw [eY]; exact ha) hu).resolve_right (by omega)
      have eq0 : ∀ a : Nat, a < Y → IntKind.u64.wrap ((a : Int).tdiv ((Y / 4294967296 : Nat) : Int)) = ((a / (Y / 4294967296) : Nat) : Int) := fun a ha => by
        have : (a : Int).tdiv ((Y / 4294967296 : Nat) : Int) = ((a / (Y / 4294967296) : Nat) : Int) := IntWalk.up_tdiv rfl rfl
        rw [this]; exact u_nat (Nat.lt_of_le_of_lt (Nat.div_le_self _ _) (Nat.lt_trans ha f3))
      have er0 : ∀ a : Nat, a < Y → IntKind.u64.wrap ((a : Int) - IntKind.u64.wrap (((a / (Y / 4294967296) : Nat) : Int) * ((Y / 4294967296 : Nat) : Int))) = ((a - a / (Y / 4294967296) * (Y / 4294967296) : Nat) : Int) := fun a ha => by
        have hle : a / (Y / 4294967296) * (Y / 4294967296) ≤ a := Nat.div_mul_le_self _ _
        have h6 := Nat.lt_trans ha f3
        rw [u_mul (Nat.lt_of_le_of_lt hle h6), u_sub hle h6]
      -- the word behind a digit
      have eR : ∀ a u q : Nat, u < 4294967296 → q = (a * 4294967296 + u) / Y → IntKind.u64.wrap (IntKind.u64.wrap (IntKind.u64.wrap ((a : Int) * 4294967296) + (u : Int)) - IntKind.u64.wrap ((q : Int) * (Y : Int))) = (((a * 4294967296 + u) % Y : Nat) : Int) := fun a u q hu hq => by
        have e := Nat.div_add_mod (a * 4294967296 + u) Y
        have hm := Nat.mod_lt (a * 4294967296 + u) hYp
        rw [← hq, Nat.mul_comm] at e
        have e2 : ((q * Y : Nat) : Int) = (q : Int) * (Y : Int) := Int.natCast_mul _ _
        generalize (a * 4294967296 + u) % Y = m at *
        simp only [u_mod]
        rw [← e2]
        generalize q * Y = t at *
        omega
      -- the condition of a loop
      have cnd : ∀ (q r u : Nat), r < 4294967296 → u < 4294967296 → ((decide (4294967296 ≤ (q : Int)) || decide (IntKind.u64.wrap (IntKind.u64.wrap (4294967296 * (r : Int)) + (u : Int)) < IntKind.u64.wrap ((q : Int) * ((Y % 4294967296 : Nat) : Int)))) = true ↔ 4294967296 ≤ q ∨ 4294967296 * r + u < q * (Y % 4294967296)) := fun q r u hr hu => by
        rcases Nat.lt_or_ge q 4294967296 with hq | hq
        · have hm : q * (Y % 4294967296) ≤ 4294967295 * 4294967295 := Nat.mul_le_mul (by omega) (by omega)
          rw [u_mul (by omega), IntWalk.u64_in (4294967296 * (r : Int)) (by omega), IntWalk.u64_in _ (by omega), Bool.or_eq_true, decide_eq_true_eq, decide_eq_true_eq]
          generalize q * (Y % 4294967296) = t
          omega
        · simp [hq]; omega
      have sY1 : ∀ r : Nat, r < 4294967296 → IntKind.u64.wrap ((r : Int) + ((Y / 4294967296 : Nat) : Int)) = ((r + Y / 4294967296 : Nat) : Int) := fun r hr => u_add (by omega)
      have dY : ∀ q : Nat, 0 < q → q ≤ 4294967297 → IntKind.u64.wrap ((q : Int) - 1) = ((q - 1 : Nat) : Int) := fun q h1 h2 => by rw [IntWalk.u64_in _ (by omega)]; omega
      rw [eq0 A hAY, er0 A hAY]
      refine ⟨⟨by omega, by omega⟩, by omega, by decide, by omega, by omega, by omega, by decide, by omega, ?_⟩
      refine Loop.keep [2, 5, 0, 0, 0, 1, 0] (Nat × Nat) (fun x => [(15, .int .u64 x.1), (16, .int .u64 x.2)]) (fun _ => []) [] (fun x => DigInv (Y / 4294967296) (Y % 4294967296) A (X / 4294967296) x.1 x.2 ∧ x.2 < 4294967296) (fun x => x.1) ?_ ?_
      · refine ⟨(A / (Y / 4294967296), A - A / (Y / 4294967296) * (Y / 4294967296)), start A (X / 4294967296) hAY u1b, ?_⟩
        (try dsimp only [go_sem, reduceIte])
        simp only [fin_all, imp_self, implies_true, true_and, and_true]
      · rintro ⟨q, r⟩ ⟨hd, hr⟩
        dsimp only at hd hr
        (try dsimp only [go_sem, reduceIte])
        (try simp only [t_all, forall_const, ne_eq, implies_true, Nat.reduceAdd, Nat.reduceLeDiff, reduceCtorEq, Nat.reduceEqDiff])
        rw [cnd q r _ hr u1b]
        have hql := hd.le
        refine ⟨fun hc => ?_, fun hc => ?_⟩
        · obtain ⟨hq0, hn⟩ := dig_next hd y1p (by rw [eY]; exact hAY) u1b hc
          rw [dY q hq0 hql, sY1 r hr]
          refine ⟨fun hb => ⟨by omega, ?_⟩, fun hb => ⟨(q - 1, r + Y / 4294967296), ⟨hn, by simp only; omega⟩, by simp only; omega, ?_⟩⟩
          · have hQ1 := dig_break hn y1p y0b (by omega) (by omega)
            rw [eY] at hQ1
            generalize q - 1 = Q1 at hQ1 ⊢
            have hR1Y : (A * 4294967296 + X / 4294967296) % Y < Y := Nat.mod_lt _ hYp
            rw [eR A _ Q1 u1b hQ1]
            generalize hR1 : (A * 4294967296 + X / 4294967296) % Y = R1 at hR1Y ⊢
            rw [eq0 R1 hR1Y, er0 R1 hR1Y]
            refine Loop.keep [2, 5, 0, 0, 3, 0, 1] (Nat × Nat) (fun x => [(18, .int .u64 x.1), (16, .int .u64 x.2)]) (fun _ => []) [] (fun x => DigInv (Y / 4294967296) (Y % 4294967296) R1 (X % 4294967296) x.1 x.2 ∧ x.2 < 4294967296) (fun x => x.1) ?_ ?_
            · refine ⟨(R1 / (Y / 4294967296), R1 - R1 / (Y / 4294967296) * (Y / 4294967296)), start R1 (X % 4294967296) hR1Y u0b, ?_⟩
              (try dsimp only [go_sem, reduceIte])
              simp only [fin_all, imp_self, implies_true, true_and, and_true]
            · rintro ⟨q, r⟩ ⟨hd, hr⟩
              dsimp only at hd hr
              (try dsimp only [go_sem, reduceIte])
              (try simp only [t_all, forall_const, ne_eq, implies_true, Nat.reduceAdd, Nat.reduceLeDiff, reduceCtorEq, Nat.reduceEqDiff])
              rw [cnd q r _ hr u0b]
              have hql := hd.le
              refine ⟨fun hc => ?_, fun hc => ?_⟩
              · obtain ⟨hq0, hn⟩ := dig_next hd y1p (by rw [eY]; exact hR1Y) u0b hc
                rw [dY q hq0 hql, sY1 r hr]
                refine ⟨fun hb => ?_, fun hb => ⟨(q - 1, r + Y / 4294967296), ⟨hn, by simp only; omega⟩, by simp only; omega, ?_⟩⟩
                · have hQ0 := dig_break hn y1p y0b (by omega) (by omega)
                  rw [eY] at hQ0
                  generalize q - 1 = Q0 at hQ0 ⊢
                  obtain ⟨eT1, eT2⟩ := two_digits hYp hQ1 hR1.symm hQ0
                  have eX : X / 4294967296 * 4294967296 + X % 4294967296 = X := Nat.div_add_mod' X 4294967296
                  rw [eX, hN, ← hY, Nat.mul_div_mul_right _ _ (p2_pos s)] at eT1
                  rw [eX, hN, ← hY, Nat.mul_mod_mul_right] at eT2
                  have hNy : (hh * 18446744073709551616 + x) / y < 18446744073709551616 := by
                    rw [Nat.div_lt_iff_lt_mul (by omega)]; omega
                  rw [Int.toNat_natCast, eR R1 _ Q0 u0b hQ0, shr_nat hs64, ← hY, eT2, Nat.mul_div_cancel _ (p2_pos s), IntWalk.u64_in ((Q1 : Int) * 4294967296) (by omega), IntWalk.u64_in _ (by omega)]
                  refine ⟨by omega, ?_⟩
                  have h : k (.tup [.int .u64 (((hh : Int) * 18446744073709551616 + x) / y), .int .u64 (((hh : Int) * 18446744073709551616 + x) % y)]) [] := h
                  have e1 : ((hh : Int) * 18446744073709551616 + x) / y = (Q1 : Int) * 4294967296 + Q0 := by
                    have : ((hh : Int) * 18446744073709551616 + x) / y = (((hh * 18446744073709551616 + x) / y : Nat) : Int) := by
                      rw [Int.natCast_ediv] <;> first | rfl | (congr 1; omega)
                    rw [this, ← eT1]; omega
                  have e2 : ((hh : Int) * 18446744073709551616 + x) % y = (((hh * 18446744073709551616 + x) % y : Nat) : Int) := by
                    rw [Int.natCast_emod] <;> first | rfl | (congr 1; omega)
                  rw [e1, e2] at h
                  exact ans_ii h
                · simp only [fin_all, imp_self, implies_true, true_and, and_true]
              · have hc : ¬ (4294967296 ≤ q ∨ 4294967296 * r + X % 4294967296 < q * (Y % 4294967296)) := fun hh => by
                  have := (cnd q r _ hr u0b).2 hh
                  rw [hc] at this; cases this
                have hQ0 := dig_end hd y1p (by omega)
                rw [eY] at hQ0
                generalize q = Q0 at hQ0 ⊢
                obtain ⟨eT1, eT2⟩ := two_digits hYp hQ1 hR1.symm hQ0
                have eX : X / 4294967296 * 4294967296 + X % 4294967296 = X := Nat.div_add_mod' X 4294967296
                rw [eX, hN, ← hY, Nat.mul_div_mul_right _ _ (p2_pos s)] at eT1
                rw [eX, hN, ← hY, Nat.mul_mod_mul_right] at eT2
                have hNy : (hh * 18446744073709551616 + x) / y < 18446744073709551616 := by
                  rw [Nat.div_lt_iff_lt_mul (by omega)]; omega
                rw [Int.toNat_natCast, eR R1 _ Q0 u0b hQ0, shr_nat hs64, ← hY, eT2, Nat.mul_div_cancel _ (p2_pos s), IntWalk.u64_in ((Q1 : Int) * 4294967296) (by omega), IntWalk.u64_in _ (by omega)]
                refine ⟨by omega, ?_⟩
                have h : k (.tup [.int .u64 (((hh : Int) * 18446744073709551616 + x) / y), .int .u64 (((hh : Int) * 18446744073709551616 + x) % y)]) [] := h
                have e1 : ((hh : Int) * 18446744073709551616 + x) / y = (Q1 : Int) * 4294967296 + Q0 := by
                  have : ((hh : Int) * 18446744073709551616 + x) / y = (((hh * 18446744073709551616 + x) / y : Nat) : Int) := by
                    rw [Int.natCast_ediv] <;> first | rfl | (congr 1; omega)
                  rw [this, ← eT1]; omega
                have e2 : ((hh : Int) * 18446744073709551616 + x) % y = (((hh * 18446744073709551616 + x) % y : Nat) : Int) := by
                  rw [Int.natCast_emod] <;> first | rfl | (congr 1; omega)
                rw [e1, e2] at h
                exact ans_ii h
          · simp only [fin_all, imp_self, implies_true, true_and, and_true]
        · have hc : ¬ (4294967296 ≤ q ∨ 4294967296 * r + X / 4294967296 < q * (Y % 4294967296)) := fun hh => by
            have := (cnd q r _ hr u1b).2 hh
            rw [hc] at this; cases this
          have hQ1 := dig_end hd y1p (by omega)
          rw [eY] at hQ1
          refine ⟨by omega, ?_⟩
          generalize q = Q1 at hQ1 ⊢
          have hR1Y : (A * 4294967296 + X / 4294967296) % Y < Y := Nat.mod_lt _ hYp
          rw [eR A _ Q1 u1b hQ1]
          generalize hR1 : (A * 4294967296 + X / 4294967296) % Y = R1 at hR1Y ⊢
          rw [eq0 R1 hR1Y, er0 R1 hR1Y]
          refine Loop.keep [2, 5, 0, 0, 3, 0, 1] (Nat × Nat) (fun x => [(18, .int .u64 x.1), (16, .int .u64 x.2)]) (fun _ => []) [] (fun x => DigInv (Y / 4294967296) (Y % 4294967296) R1 (X % 4294967296) x.1 x.2 ∧ x.2 < 4294967296) (fun x => x.1) ?_ ?_
          · refine ⟨(R1 / (Y / 4294967296), R1 - R1 / (Y / 4294967296) * (Y / 4294967296)), start R1 (X % 4294967296) hR1Y u0b, ?_⟩
            (try dsimp only [go_sem, reduceIte])
            simp only [fin_all, imp_self, implies_true, true_and, and_true]
          · rintro ⟨q, r⟩ ⟨hd, hr⟩
            dsimp only at hd hr
            (try dsimp only [go_sem, reduceIte])
            (try simp only [t_all, forall_const, ne_eq, implies_true, Nat.reduceAdd, Nat.reduceLeDiff, reduceCtorEq, Nat.reduceEqDiff])
            rw [cnd q r _ hr u0b]
            have hql := hd.le
            refine ⟨fun hc => ?_, fun hc => ?_⟩
            · obtain ⟨hq0, hn⟩ := dig_next hd y1p (by rw [eY]; exact hR1Y) u0b hc
              rw [dY q hq0 hql, sY1 r hr]
              refine ⟨fun hb => ?_, fun hb => ⟨(q - 1, r + Y / 4294967296), ⟨hn, by simp only; omega⟩, by simp only; omega, ?_⟩⟩
              · have hQ0 := dig_break hn y1p y0b (by omega) (by omega)
                rw [eY] at hQ0
                generalize q - 1 = Q0 at hQ0 ⊢
                obtain ⟨eT1, eT2⟩ := two_digits hYp hQ1 hR1.symm hQ0
                have eX : X / 4294967296 * 4294967296 + X % 4294967296 = X := Nat.div_add_mod' X 4294967296
                rw [eX, hN, ← hY, Nat.mul_div_mul_right _ _ (p2_pos s)] at eT1
                rw [eX, hN, ← hY, Nat.mul_mod_mul_right] at eT2
                have hNy : (hh * 18446744073709551616 + x) / y < 18446744073709551616 := by
                  rw [Nat.div_lt_iff_lt_mul (by omega)]; omega
                rw [Int.toNat_natCast, eR R1 _ Q0 u0b hQ0, shr_nat hs64, ← hY, eT2, Nat.mul_div_cancel _ (p2_pos s), IntWalk.u64_in ((Q1 : Int) * 4294967296) (by omega), IntWalk.u64_in _ (by omega)]
                refine ⟨by omega, ?_⟩
                have h : k (.tup [.int .u64 (((hh : Int) * 18446744073709551616 + x) / y), .int .u64 (((hh : Int) * 18446744073709551616 + x) % y)]) [] := h
                have e1 : ((hh : Int) * 18446744073709551616 + x) / y = (Q1 : Int) * 4294967296 + Q0 := by
                  have : ((hh : Int) * 18446744073709551616 + x) / y = (((hh * 18446744073709551616 + x) / y : Nat) : Int) := by
                    rw [Int.natCast_ediv] <;> first | rfl | (congr 1; omega)
                  rw [this, ← eT1]; omega
                have e2 : ((hh : Int) * 18446744073709551616 + x) % y = (((hh * 18446744073709551616 + x) % y : Nat) : Int) := by
                  rw [Int.natCast_emod] <;> first | rfl | (congr 1; omega)
                rw [e1, e2] at h
                exact ans_ii h
              · simp only [fin_all, imp_self, implies_true, true_and, and_true]
            · have hc : ¬ (4294967296 ≤ q ∨ 4294967296 * r + X % 4294967296 < q * (Y % 4294967296)) := fun hh => by
                have := (cnd q r _ hr u0b).2 hh
                rw [hc] at this; cases this
              have hQ0 := dig_end hd y1p (by omega)
              rw [eY] at hQ0
              generalize q = Q0 at hQ0 ⊢
              obtain ⟨eT1, eT2⟩ := two_digits hYp hQ1 hR1.symm hQ0
              have eX : X / 4294967296 * 4294967296 + X % 4294967296 = X := Nat.div_add_mod' X 4294967296
              rw [eX, hN, ← hY, Nat.mul_div_mul_right _ _ (p2_pos s)] at eT1
              rw [eX, hN, ← hY, Nat.mul_mod_mul_right] at eT2
              have hNy : (hh * 18446744073709551616 + x) / y < 18446744073709551616 := by
                rw [Nat.div_lt_iff_lt_mul (by omega)]; omega
              rw [Int.toNat_natCast, eR R1 _ Q0 u0b hQ0, shr_nat hs64, ← hY, eT2, Nat.mul_div_cancel _ (p2_pos s), IntWalk.u64_in ((Q1 : Int) * 4294967296) (by omega), IntWalk.u64_in _ (by omega)]
              refine ⟨by omega, ?_⟩
              have h : k (.tup [.int .u64 (((hh : Int) * 18446744073709551616 + x) / y), .int .u64 (((hh : Int) * 18446744073709551616 + x) % y)]) [] := h
              have e1 : ((hh : Int) * 18446744073709551616 + x) / y = (Q1 : Int) * 4294967296 + Q0 := by
                have : ((hh : Int) * 18446744073709551616 + x) / y = (((hh * 18446744073709551616 + x) / y : Nat) : Int) := by
                  rw [Int.natCast_ediv] <;> first | rfl | (congr 1; omega)
                rw [this, ← eT1]; omega
              have e2 : ((hh : Int) * 18446744073709551616 + x) % y = (((hh * 18446744073709551616 + x) % y : Nat) : Int) := by
                rw [Int.natCast_emod] <;> first | rfl | (congr 1; omega)
              rw [e1, e2] at h
              exact ans_ii h
  · exact h.1.elim
end Go.Proofs.Ytmgfmkbniaepcaa
set_option linter.all false
namespace Go.Proofs.Ytmgfmkbniaepcaa
open Go Go.Vx
set_option maxRecDepth 100000
set_option maxHeartbeats 4000000
def v69 : VF := { ntmps := 6, res := [.tmp 2], body :=
 (.seq (.region [u1 2 .mov [.cn .nil]])
 (.seq (.region [u1 3 .mov [.tm 0],
 u1 4 (.conv .u64) [.tm 3],
 u1 5 (.call 78) [.tm 4],
 u1 2 .mov [.tm 5]])
 .ret)) }
theorem v69_is : vfunc Try.prog Try.f69 = some v69 := by kernel_rfl
def v67 : VF := { ntmps := 14, res := [.tmp 4], body :=
 (.seq (.region [u1 4 .mov [.cn .nil]])
 (.seq (.region [u1 8 .mov [.tm 0],
 u1 9 .mov [.tm 1],
 u1 10 (.call 76) [.tm 8, .tm 9],
 u1 7 .mov [.tm 10],
 u1 11 (.ext 0) [.tm 7],
 u1 12 (.ext 1) [.tm 7],
 u1 5 .mov [.tm 11],
 u1 6 .mov [.tm 12]])
 (.seq (.region [u1 13 .mov [.tm 5],
 u1 4 .mov [.tm 13]])
 .ret))) }
theorem v67_is : vfunc Try.prog Try.f67 = some v67 := by kernel_rfl
def v68 : VF := { ntmps := 14, res := [.tmp 4], body :=
 (.seq (.region [u1 4 .mov [.cn .nil]])
 (.seq (.region [u1 8 .mov [.tm 0],
 u1 9 .mov [.tm 1],
 u1 10 (.call 77) [.tm 8, .tm 9],
 u1 7 .mov [.tm 10],
 u1 11 (.ext 0) [.tm 7],
 u1 12 (.ext 1) [.tm 7],
 u1 5 .mov [.tm 11],
 u1 6 .mov [.tm 12]])
 (.seq (.region [u1 13 .mov [.tm 5],
 u1 4 .mov [.tm 13]])
 .ret))) }
theorem v68_is : vfunc Try.prog Try.f68 = some v68 := by kernel_rfl
def v60 : VF := { ntmps := 15, res := [.tmp 4], body :=
 (.seq (.region [u1 4 .mov [.cn (.bool false)]])
 (.seq (.region [u1 8 .mov [.tm 0],
 u1 9 .mov [.tm 1],
 u1 10 (.call 70) [.tm 8, .tm 9],
 u1 7 .mov [.tm 10],
 u1 11 (.ext 0) [.tm 7],
 u1 12 (.ext 1) [.tm 7],
 u1 5 .mov [.tm 11],
 u1 6 .mov [.tm 12]])
 (.seq (.region [u1 13 .mov [.tm 5],
 u1 14 (.cmp .gtr) [.tm 13, .cn (.int .i64 0)],
 u1 4 .mov [.tm 14]])
 .ret))) }
theorem v60_is : vfunc Try.prog Try.f60 = some v60 := by kernel_rfl
def v75 : VF := { ntmps := 34, res := [.tmp 6], body :=
 (.seq (.region [u1 6 .mov [.cn .nil]])
 (.seq (.region [u1 12 .mov [.tm 0],
 u1 13 .mov [.tm 1],
 u1 14 (.call 81) [.tm 12, .tm 13],
 u1 11 .mov [.tm 14],
 u1 15 (.ext 0) [.tm 11],
 u1 16 (.ext 1) [.tm 11],
 u1 7 .mov [.tm 15],
 u1 8 .mov [.tm 16]])
 (.seq (.seq (.region [u1 18 .mov [.tm 7],
 u1 19 .mov [.tm 1],
 u1 20 .neg [.tm 19],
 u1 21 (.call 81) [.tm 18, .tm 20],
 u1 17 .mov [.tm 21],
 u1 22 (.ext 0) [.tm 17],
 u1 23 (.ext 1) [.tm 17],
 u1 9 .mov [.tm 22],
 u1 10 .mov [.tm 23]])
 (.seq (.region [u1 24 .mov [.tm 2],
 u1 25 .mov [.tm 24],
 u2 26 25 true .mov [.tm 0],
 u2 27 25 true .mov [.tm 9],
 u2 28 25 true (.call 60) [.tm 26, .tm 27],
 u1 29 .and [.tm 25, .tm 28]])
 (.cond (.tm 29) (.region [u1 30 .mov [.tm 7],
 u1 31 (.call 69) [.cn (.int .i64 1)],
 u1 32 (.call 67) [.tm 30, .tm 31],
 u1 7 .mov [.tm 32]])
  .skip)))
 (.seq (.region [u1 33 .mov [.tm 7],
 u1 6 .mov [.tm 33]])
 .ret)))) }
theorem v75_is : vfunc Try.prog Try.f75 = some v75 := by kernel_rfl
def v66 : VF := { ntmps := 97, res := [.tmp 4, .tmp 5], body :=
 (.seq (.region [u1 4 .mov [.cn .nil],
 u1 5 .mov [.cn .nil]])
 (.seq (.region [u1 15 .mov [.tm 0],
 u1 16 (.conv .u64) [.tm 15],
 u1 17 (.call 73) [.tm 16],
 u1 18 (.ari .sub) [.tm 17, .cn (.int .i64 1)],
 u1 6 .mov [.tm 18]])
 (.seq (.region [u1 19 .mov [.tm 6],
 u1 20 (.call 69) [.tm 19],
 u1 21 .mov [.tm 1],
 u1 22 (.call 75) [.tm 20, .tm 21, .cn (.bool false)],
 u1 7 .mov [.tm 22]])
 (.seq (.seq (.region [u1 23 .mov [.tm 0],
 u1 24 .mov [.tm 0],
 u1 25 (.ari .sub) [.tm 24, .cn (.int .i64 1)],
 u1 26 (.bit .and) [.tm 23, .tm 25],
 u1 27 (.cmp .eql) [.tm 26, .cn (.int .i64 0)]])
 (.cond (.tm 27) (.seq (.region [u1 28 .mov [.tm 7],
 u1 29 .mov [.tm 7],
 u1 4 .mov [.tm 28],
 u1 5 .mov [.tm 29]])
 .ret)
  .skip))
 (.seq (.region [u1 30 .mov [.tm 1],
 u1 31 (.ari .mul) [.cn (.int .i64 2), .tm 30],
 u1 32 (.ari .add) [.tm 31, .cn (.int .i64 64)],
 u1 8 .mov [.tm 32]])
 (.seq (.region [u1 33 .mov [.tm 0],
 u1 34 (.call 69) [.tm 33],
 u1 35 .mov [.tm 8],
 u1 36 .mov [.tm 6],
 u1 37 (.ari .sub) [.tm 35, .tm 36],
 u1 38 (.call 75) [.tm 34, .tm 37, .cn (.bool false)],
 u1 9 .mov [.tm 38]])
 (.seq (.region [u1 39 .mov [.tm 9],
 u1 10 .mov [.tm 39]])
 (.seq (.region [u1 40 (.call 69) [.cn (.int .i64 2)],
 u1 41 .mov [.tm 8],
 u1 42 (.call 75) [.tm 40, .tm 41, .cn (.bool false)],
 u1 11 .mov [.tm 42]])
 (.seq (.region [u1 43 .mov [.tm 6],
 u1 44 (.call 69) [.tm 43],
 u1 12 .mov [.tm 44],
 u1 13 .mov [.cn (.int .i64 0)]])
 (.seq (.block 0 (.loop (.seq (.seq (.region [u1 45 .mov [.tm 13],
 u1 46 .mov [.tm 1],
 u1 47 (.cmp .lss) [.tm 45, .tm 46]])
 (.cond (.tm 47) .skip
  (.exit 0)))
 (.seq (.block 1 (.seq (.region [u1 50 .mov [.tm 9],
 u1 51 .mov [.tm 9],
 u1 52 (.call 68) [.tm 50, .tm 51],
 u1 53 .mov [.tm 8],
 u1 54 .neg [.tm 53],
 u1 55 (.call 75) [.tm 52, .tm 54, .cn (.bool false)],
 u1 56 .mov [.tm 10],
 u1 57 .mov [.tm 10],
 u1 58 (.call 68) [.tm 56, .tm 57],
 u1 59 .mov [.tm 8],
 u1 60 .neg [.tm 59],
 u1 61 (.call 75) [.tm 58, .tm 60, .cn (.bool true)],
 u1 9 .mov [.tm 55],
 u1 10 .mov [.tm 61]])
 (.seq (.region [u1 14 .mov [.cn (.int .i64 0)]])
 (.seq (.block 2 (.seq (.region [u1 63 .mov [.tm 11],
 u1 64 .mov [.tm 9],
 u1 65 (.call 60) [.tm 63, .tm 64],
 u1 66 .not [.tm 65],
 u1 62 .mov [.tm 66]])
 (.cond (.tm 62) (.region [u1 67 .mov [.tm 9],
 u1 68 (.call 75) [.tm 67, .cn (.int .i64 (-1)), .cn (.bool false)],
 u1 69 .mov [.tm 10],
 u1 70 (.call 75) [.tm 69, .cn (.int .i64 (-1)), .cn (.bool true)],
 u1 9 .mov [.tm 68],
 u1 10 .mov [.tm 70],
 u1 14 .mov [.cn (.int .i64 1)]])
  (.seq (.region [u1 72 .mov [.tm 11],
 u1 73 .mov [.tm 10],
 u1 74 (.call 60) [.tm 72, .tm 73],
 u1 75 .not [.tm 74],
 u1 71 .mov [.tm 75]])
 (.cond (.tm 71) (.seq (.region [u1 76 .mov [.tm 12],
 u1 77 .mov [.tm 1],
 u1 78 .mov [.tm 13],
 u1 79 (.ari .sub) [.tm 77, .tm 78],
 u1 80 (.call 75) [.tm 76, .tm 79, .cn (.bool false)],
 u1 81 .mov [.tm 12],
 u1 82 (.call 69) [.cn (.int .i64 1)],
 u1 83 (.call 67) [.tm 81, .tm 82],
 u1 84 .mov [.tm 1],
 u1 85 .mov [.tm 13],
 u1 86 (.ari .sub) [.tm 84, .tm 85],
 u1 87 (.call 75) [.tm 83, .tm 86, .cn (.bool false)],
 u1 4 .mov [.tm 80],
 u1 5 .mov [.tm 87]])
 .ret)
  .skip)))))
 (.region [u1 88 .mov [.tm 12],
 u1 89 (.call 75) [.tm 88, .cn (.int .i64 1), .cn (.bool false)],
 u1 90 .mov [.tm 14],
 u1 91 (.call 69) [.tm 90],
 u1 92 (.call 67) [.tm 89, .tm 91],
 u1 12 .mov [.tm 92]])))))
 (.region [u1 48 .mov [.tm 13],
 u1 49 (.ari .add) [.tm 48, .cn (.int .i64 1)],
 u1 13 .mov [.tm 49]])))))
 (.seq (.region [u1 93 .mov [.tm 12],
 u1 94 .mov [.tm 12],
 u1 95 (.call 69) [.cn (.int .i64 1)],
 u1 96 (.call 67) [.tm 94, .tm 95],
 u1 4 .mov [.tm 93],
 u1 5 .mov [.tm 96]])
 .ret))))))))))) }
theorem v66_is : vfunc Try.prog Try.f66 = some v66 := by kernel_rfl
theorem capF_ok (a : Nat) : nl (capF a) ≤ 512 := by
  unfold capF
  split
  · assumption
  · rw [nl_0]; omega
def addW (a b : Nat) : Nat := capF (a + b)
def mulW (a b : Nat) : Nat := capF (a * b)
def movW (a : Nat) (d : Int) (up : Bool) : Nat :=
  if (up && decide (capF (shF (capF (shF a d)) (-d)) < a)) = true then addW (capF (shF a d)) 1 else capF (shF a d)
theorem addW_ok (a b : Nat) : nl (addW a b) ≤ 512 := capF_ok _
theorem mulW_ok (a b : Nat) : nl (mulW a b) ≤ 512 := capF_ok _
theorem movW_ok (a : Nat) (d : Int) (up : Bool) : nl (movW a d up) ≤ 512 := by
  unfold movW
  split <;> exact capF_ok _
theorem okW_nl {a : Nat} (h : nl a ≤ 512) : okW a (nl a) 1 (fun k => [.int .u32 (dig a k)]) := ⟨padP_nl (by omega), rfl, h⟩
theorem nl_64 {a : Nat} (h : a < 18446744073709551616) : nl a ≤ 2 := nl_le.2 (by omega)
def numWC : Ctr := { alias := false, of := fun l => match l with
  | [.int .i64 n] => .pre (0 ≤ n ∧ n ≤ 9223372036854775807) (.fin (natS false n.toNat) [])
  | _ => noC }
def addWC : Ctr := { alias := false, of := fun l => match l with
  | [.vs _ z n sz get, .vs _ z' m sz' get'] => .ex Nat fun a => .ex Nat fun b => .pre (okW a n sz get ∧ okW b m sz' get') (.all Bool fun y => .fin (natS y (addW a b)) [])
  | _ => noC }
def timesWC : Ctr := { alias := false, of := fun l => match l with
  | [.vs _ z n sz get, .vs _ z' m sz' get'] => .ex Nat fun a => .ex Nat fun b => .pre (okW a n sz get ∧ okW b m sz' get') (.all Bool fun y => .fin (natS y (mulW a b)) [])
  | _ => noC }
def aboveC : Ctr := { alias := false, of := fun l => match l with
  | [.vs _ z n sz get, .vs _ z' m sz' get'] => .ex Nat fun a => .ex Nat fun b => .pre (okW a n sz get ∧ okW b m sz' get') (.fin (.bool (decide (b < a))) [])
  | _ => noC }
def movC : Ctr := { alias := false, of := fun l => match l with
  | [.vs _ z n sz get, .int .i64 d, .bool up] => .ex Nat fun a => .pre (okW a n sz get ∧ -20000 ≤ d ∧ d ≤ 20000) (.all Bool fun y => .fin (natS y (movW a d up)) [])
  | _ => noC }
def RA0 : Env := { ct := fun n => match n with | 78 => some ofC | 76 => some wAddC | 77 => some wMulC | 70 => some wCmpC | 81 => some wShiftC | _ => none, fn := fun _ => none, meth := fun _ _ => none }
theorem RA0_ct78 : RA0.ct 78 = some ofC := rfl
theorem RA0_ct76 : RA0.ct 76 = some wAddC := rfl
theorem RA0_ct77 : RA0.ct 77 = some wMulC := rfl
theorem RA0_ct70 : RA0.ct 70 = some wCmpC := rfl
theorem RA0_ok : EnvOk Try.prog RA0 := by
  refine ⟨fun f c h => ?_, fun f vf h => ?_, (fun _ _ _ h => by cases h), by kernel_rfl, (fun _ h => by cases h)⟩
  · simp only [RA0] at h
    split at h
    · cases h; exact ⟨wOf_ok, Try.f78, Try.func78, by kernel_rfl, by kernel_rfl⟩
    · cases h; exact ⟨wAdd_ok, Try.f76, Try.func76, by kernel_rfl, by kernel_rfl⟩
    · cases h; exact ⟨wMul_ok, Try.f77, Try.func77, by kernel_rfl, by kernel_rfl⟩
    · cases h; exact ⟨wCmp_ok, Try.f70, Try.func70, by kernel_rfl, by kernel_rfl⟩
    · cases h; exact ⟨wShift_ok, Try.f81, Try.func81, by kernel_rfl, by kernel_rfl⟩
    · cases h
  · cases h
theorem numW_ok : numWC.ok Try.prog 69 := by
  refine contract Try.func69 v69_is RA0_ok 200 numWC fun args k h => ?_
  simp only [numWC] at h
  split at h
  · rename_i n
    obtain ⟨⟨h0, h1⟩, h⟩ := h
    refine ⟨[.int .i64 n], by simp [leL, le], ?_⟩
    dsimp only [v69, RA0_ct78, ofC, natS, go_sem, reduceIte]
    simp only [t_all, forall_const, ne_eq, implies_true, Nat.reduceAdd, Nat.reduceLeDiff, reduceCtorEq, Nat.reduceEqDiff]
    rw [IntWalk.u64_in _ (by omega)]
    exact ⟨⟨h0, by omega⟩, ans_natS (t := true) h⟩
  · exact h.1.elim
theorem addW_c : addWC.ok Try.prog 67 := by
  refine contract Try.func67 v67_is RA0_ok 200 addWC fun args k h => ?_
  simp only [addWC] at h
  split at h
  · rename_i t1 z1 n sz get t2 z2 m sz' get'
    obtain ⟨a, b, ⟨⟨⟨rfl, hn, ha, hg⟩, hna, hn5⟩, ⟨rfl, hm, hb, hg'⟩, hmb, hm5⟩, h⟩ := h
    refine ⟨[.vs t1 z1 n 1 (fun k => [.int .u32 (dig a k)]), .vs t2 z2 m 1 (fun k => [.int .u32 (dig b k)])], ⟨by simpa [le] using hg, by simpa [le] using hg', trivial⟩, ?_⟩
    dsimp only [v67, RA0_ct76, wAddC, natS, go_sem, reduceIte]
    simp only [t_all, forall_const, ne_eq, implies_true, Nat.reduceAdd, Nat.reduceLeDiff, reduceCtorEq, Nat.reduceEqDiff]
    subst hna hmb
    exact ⟨a, b, ⟨okW_nl hn5, okW_nl hm5⟩, fun y => ⟨by decide, by decide, ans_natS (t := true) (h y)⟩⟩
  · exact h.1.elim
theorem mulW_c : timesWC.ok Try.prog 68 := by
  refine contract Try.func68 v68_is RA0_ok 200 timesWC fun args k h => ?_
  simp only [timesWC] at h
  split at h
  · rename_i t1 z1 n sz get t2 z2 m sz' get'
    obtain ⟨a, b, ⟨⟨⟨rfl, hn, ha, hg⟩, hna, hn5⟩, ⟨rfl, hm, hb, hg'⟩, hmb, hm5⟩, h⟩ := h
    refine ⟨[.vs t1 z1 n 1 (fun k => [.int .u32 (dig a k)]), .vs t2 z2 m 1 (fun k => [.int .u32 (dig b k)])], ⟨by simpa [le] using hg, by simpa [le] using hg', trivial⟩, ?_⟩
    dsimp only [v68, RA0_ct77, wMulC, natS, go_sem, reduceIte]
    simp only [t_all, forall_const, ne_eq, implies_true, Nat.reduceAdd, Nat.reduceLeDiff, reduceCtorEq, Nat.reduceEqDiff]
    subst hna hmb
    exact ⟨a, b, ⟨okW_nl hn5, okW_nl hm5⟩, fun y => ⟨by decide, by decide, ans_natS (t := true) (h y)⟩⟩
  · exact h.1.elim
theorem above_c : aboveC.ok Try.prog 60 := by
  refine contract Try.func60 v60_is RA0_ok 200 aboveC fun args k h => ?_
  simp only [aboveC] at h
  split at h
  · rename_i t1 z1 n sz get t2 z2 m sz' get'
    obtain ⟨a, b, ⟨⟨⟨rfl, hn, ha, hg⟩, hna, hn5⟩, ⟨rfl, hm, hb, hg'⟩, hmb, hm5⟩, h⟩ := h
    refine ⟨[.vs t1 z1 n 1 (fun k => [.int .u32 (dig a k)]), .vs t2 z2 m 1 (fun k => [.int .u32 (dig b k)])], ⟨by simpa [le] using hg, by simpa [le] using hg', trivial⟩, ?_⟩
    dsimp only [v60, RA0_ct70, wCmpC, natS, go_sem, reduceIte]
    simp only [t_all, forall_const, ne_eq, implies_true, Nat.reduceAdd, Nat.reduceLeDiff, reduceCtorEq, Nat.reduceEqDiff]
    subst hna hmb
    have e : decide (0 < ordN a b) = decide (b < a) := by
      unfold ordN
      by_cases h1 : a < b
      · rw [if_pos h1, decide_eq_false (by omega : ¬ b < a)]; rfl
      · rw [if_neg h1]
        by_cases h2 : b < a
        · rw [if_pos h2, decide_eq_true h2]; rfl
        · rw [if_neg h2, decide_eq_false h2]; rfl
    refine ⟨a, b, ⟨okW_nl hn5, okW_nl hm5⟩, by decide, by decide, ?_⟩
    rw [e]
    exact ans_bool h
  · exact h.1.elim
def RA1 : Env := { ct := fun n => match n with | 81 => some wShiftC | 60 => some aboveC | 67 => some addWC | 69 => some numWC | _ => none, fn := fun _ => none, meth := fun _ _ => none }
theorem RA1_ct81 : RA1.ct 81 = some wShiftC := rfl
theorem RA1_ct60 : RA1.ct 60 = some aboveC := rfl
theorem RA1_ct67 : RA1.ct 67 = some addWC := rfl
theorem RA1_ct69 : RA1.ct 69 = some numWC := rfl
theorem RA1_ok : EnvOk Try.prog RA1 := by
  refine ⟨fun f c h => ?_, fun f vf h => ?_, (fun _ _ _ h => by cases h), by kernel_rfl, (fun _ h => by cases h)⟩
  · simp only [RA1] at h
    split at h
    · cases h; exact ⟨wShift_ok, Try.f81, Try.func81, by kernel_rfl, by kernel_rfl⟩
    · cases h; exact ⟨above_c, Try.f60, Try.func60, by kernel_rfl, by kernel_rfl⟩
    · cases h; exact ⟨addW_c, Try.f67, Try.func67, by kernel_rfl, by kernel_rfl⟩
    · cases h; exact ⟨numW_ok, Try.f69, Try.func69, by kernel_rfl, by kernel_rfl⟩
    · cases h
  · cases h
theorem mov_c : movC.ok Try.prog 75 := by
  refine contract Try.func75 v75_is RA1_ok 300 movC fun args k h => ?_
  simp only [movC] at h
  split at h
  · rename_i t1 z1 n sz get d up
    obtain ⟨a, ⟨⟨⟨rfl, hn, ha, hg⟩, hna, hn5⟩, hd0, hd1⟩, h⟩ := h
    refine ⟨[.vs t1 z1 n 1 (fun k => [.int .u32 (dig a k)]), .int .i64 d, .bool up], ⟨by simpa [le] using hg, ⟨rfl, rfl⟩, rfl, trivial⟩, ?_⟩
    dsimp only [v75, RA1_ct81, RA1_ct60, RA1_ct67, RA1_ct69, wShiftC, aboveC, addWC, numWC, natS, go_sem, reduceIte]
    simp only [t_all, forall_const, ne_eq, implies_true, Nat.reduceAdd, Nat.reduceLeDiff, reduceCtorEq, Nat.reduceEqDiff]
    subst hna
    have hneg : IntKind.i64.wrap (0 - d) = -d := by rw [IntWalk.i64_in _ (by omega)]; omega
    rw [hneg]
    have h1 : nl 1 ≤ 512 := by have := @nl_64 1 (by decide); omega
    refine ⟨a, ⟨okW_nl hn5, hd0, hd1⟩, fun y => ⟨by decide, by decide, capF (shF a d), ⟨okW_nl (capF_ok _), by omega, by omega⟩, by decide, by decide, a, capF (shF (capF (shF a d)) (-d)), fun _ => ⟨okW_nl hn5, okW_nl (capF_ok _)⟩, fun hc => ⟨by decide, capF (shF a d), 1, ⟨okW_nl (capF_ok _), okW_nl h1⟩, fun z => ?_⟩, fun hc => ?_⟩⟩
    · have h : k (natS z (movW a d up)) [] := h z
      rw [movW, if_pos hc] at h
      exact ans_natS (t := true) h
    · have h : k (natS y (movW a d up)) [] := h y
      rw [movW, if_neg (by rw [hc]; decide)] at h
      exact ans_natS (t := true) h
  · exact h.1.elim
def isPow (n : Int) : Bool := decide (bitI .and .i64 n (IntKind.i64.wrap (n - 1)) = 0)
def logL (two : Nat) (deep : Int) : Nat → Nat → Nat → Nat → Nat × Nat
  | 0, _, _, sum => (sum, addW sum 1)
  | f + 1, a, b, sum =>
    let a1 := movW (mulW a a) (-deep) false
    let b1 := movW (mulW b b) (-deep) true
    if a1 < two then
      if b1 < two then logL two deep f a1 b1 (addW (movW sum 1 false) 0)
      else (movW sum ((f + 1 : Nat) : Int) false, movW (addW sum 1) ((f + 1 : Nat) : Int) false)
    else logL two deep f (movW a1 (-1) false) (movW b1 (-1) true) (addW (movW sum 1 false) 1)
def logF (n : Int) (p : Nat) : Nat × Nat :=
  let k := bitsN n.toNat - 1
  if isPow n = true then (movW k p false, movW k p false)
  else
    let deep : Int := ((2 * p + 64 : Nat) : Int)
    let a := movW n.toNat (deep - k) false
    logL (movW 2 deep false) deep p a a k
theorem logL_ok {two : Nat} {deep : Int} : ∀ (f a b sum : Nat), nl sum ≤ 512 → nl (logL two deep f a b sum).1 ≤ 512 ∧ nl (logL two deep f a b sum).2 ≤ 512
  | 0, _, _, sum, h => ⟨h, addW_ok _ _⟩
  | f + 1, a, b, sum, h => by
    rw [logL]
    split
    · split
      · exact logL_ok f _ _ _ (addW_ok _ _)
      · exact ⟨movW_ok sum _ false, movW_ok (addW sum 1) _ false⟩
    · exact logL_ok f _ _ _ (addW_ok _ _)
theorem logF_ok (n : Int) (p : Nat) (hn : n ≤ 9223372036854775807) : nl (logF n p).1 ≤ 512 ∧ nl (logF n p).2 ≤ 512 := by
  rw [logF]
  by_cases hb : isPow n = true
  · rw [if_pos hb]; exact ⟨movW_ok (bitsN n.toNat - 1) p false, movW_ok (bitsN n.toNat - 1) p false⟩
  · rw [if_neg hb]
    refine logL_ok _ _ _ _ ?_
    have h1 : bitsN n.toNat ≤ 64 := bitsN_le.2 (by have : (2 : Nat) ^ 64 = 18446744073709551616 := rfl; omega)
    have := @nl_64 (bitsN n.toNat - 1) (by omega)
    omega
structure LSt where
  i : Nat
  a : Nat
  b : Nat
  s : Nat
  za : Bool
  zb : Bool
  zs : Bool
theorem ans_ww {k : SV → List HO → Prop} {al : Bool} {hp : List HO} {y z : Bool} {a b : Nat} (h : k (.tup [natS y a, natS z b]) []) : answers al k (.tup [natS y a, natS z b]) hp :=
  ans_le (show k _ [] from h) (le_self _ ⟨trivial, trivial, trivial⟩) (fun _ => by simp [natS, freshS, freshL])
def logC : Ctr := { alias := false, of := fun l => match l with
  | [.int .i64 n, .int .i64 p] => .ex Nat fun q => .pre (1 ≤ n ∧ n ≤ 9223372036854775807 ∧ p = q ∧ q ≤ 2048) (.all Bool fun y => .all Bool fun z => .fin (.tup [natS y (logF n q).1, natS z (logF n q).2]) [])
  | _ => noC }
def RA2 : Env := { ct := fun n => match n with | 73 => some len64C | 60 => some aboveC | 67 => some addWC | 68 => some timesWC | 69 => some numWC | 75 => some movC | _ => none, fn := fun _ => none, meth := fun _ _ => none }
theorem RA2_ct73 : RA2.ct 73 = some len64C := rfl
theorem RA2_ct60 : RA2.ct 60 = some aboveC := rfl
theorem RA2_ct67 : RA2.ct 67 = some addWC := rfl
theorem RA2_ct68 : RA2.ct 68 = some timesWC := rfl
theorem RA2_ct69 : RA2.ct 69 = some numWC := rfl
theorem RA2_ct75 : RA2.ct 75 = some movC := rfl
theorem RA2_ok : EnvOk Try.prog RA2 := by
  refine ⟨fun f c h => ?_, fun f vf h => ?_, (fun _ _ _ h => by cases h), by kernel_rfl, (fun _ h => by cases h)⟩
  · simp only [RA2] at h
    split at h
    · cases h; exact ⟨len64_ok, Try.f73, Try.func73, by kernel_rfl, by kernel_rfl⟩
    · cases h; exact ⟨above_c, Try.f60, Try.func60, by kernel_rfl, by kernel_rfl⟩
    · cases h; exact ⟨addW_c, Try.f67, Try.func67, by kernel_rfl, by kernel_rfl⟩
    · cases h; exact ⟨mulW_c, Try.f68, Try.func68, by kernel_rfl, by kernel_rfl⟩
    · cases h; exact ⟨numW_ok, Try.f69, Try.func69, by kernel_rfl, by kernel_rfl⟩
    · cases h; exact ⟨mov_c, Try.f75, Try.func75, by kernel_rfl, by kernel_rfl⟩
    · cases h
  · cases h
theorem log_c : logC.ok Try.prog 66 := by
  refine contract Try.func66 v66_is RA2_ok 600 logC fun args k h => ?_
  simp only [logC] at h
  split at h
  · rename_i n p'
    obtain ⟨p, ⟨hn0, hn1, rfl, hp⟩, h⟩ := h
    refine ⟨[.int .i64 n, .int .i64 p], by simp [leL, le], ?_⟩
    dsimp only [v66, RA2_ct73, RA2_ct60, RA2_ct67, RA2_ct69, RA2_ct75, RA2_ct68, len64C, aboveC, addWC, numWC, timesWC, movC, natS, go_sem, reduceIte]
    simp only [t_all, forall_const, ne_eq, implies_true, Nat.reduceAdd, Nat.reduceLeDiff, reduceCtorEq, Nat.reduceEqDiff]
    have hb1 : bitsN n.toNat ≤ 64 := bitsN_le.2 (by have : (2 : Nat) ^ 64 = 18446744073709551616 := rfl; omega)
    have hb0 : bitsN n.toNat ≠ 0 := fun e => by have := bitsN_eq0.1 e; omega
    obtain ⟨K, hK⟩ : ∃ K, K = bitsN n.toNat - 1 := ⟨_, rfl⟩
    have eu : IntKind.u64.wrap n = n := IntWalk.u64_in _ (by omega)
    have ek : IntKind.i64.wrap ((bitsN n.toNat : Int) - 1) = (K : Int) := by rw [hK, IntWalk.i64_in _ (by omega)]; omega
    have ed : IntKind.i64.wrap (IntKind.i64.wrap (2 * (p : Int)) + 64) = ((2 * p + 64 : Nat) : Int) := by rw [IntWalk.i64_in (2 * (p : Int)) (by omega), IntWalk.i64_in _ (by omega)]; omega
    obtain ⟨D, hD⟩ : ∃ D : Int, D = ((2 * p + 64 : Nat) : Int) := ⟨_, rfl⟩
    have edk : IntKind.i64.wrap (D - (K : Int)) = D - (K : Int) := IntWalk.i64_in _ (by omega)
    rw [eu, ek, ed, ← hD, edk, Int.toNat_natCast]
    have hKw : nl K ≤ 512 := by have := @nl_64 K (by omega); omega
    have hnw : nl n.toNat ≤ 512 := by have := @nl_64 n.toNat (by omega); omega
    have h2w : nl 2 ≤ 512 := by have := @nl_64 2 (by decide); omega
    refine ⟨by omega, by omega, K, ⟨okW_nl hKw, by omega, by omega⟩, fun y => ⟨fun hc => ?_, fun hc => ⟨by omega, n.toNat, ⟨okW_nl hnw, by omega, by omega⟩, fun z => ⟨by decide, 2, ⟨okW_nl h2w, by omega, by omega⟩, fun z2 => ⟨by omega, ?_⟩⟩⟩⟩⟩
    · have h : k (.tup [natS y (logF n p).1, natS y (logF n p).2]) [] := h y y
      have e : logF n p = (movW K p false, movW K p false) := by rw [logF, if_pos (show isPow n = true from decide_eq_true hc), hK]
      rw [e] at h
      exact ans_ww h
    · have e : logF n p = logL (movW 2 D false) D p (movW n.toNat (D - K) false) (movW n.toNat (D - K) false) K := by rw [logF, if_neg (show ¬ isPow n = true from fun hh => hc (of_decide_eq_true hh)), hK, hD]
      rw [e] at h
      generalize hA : movW n.toNat (D - (K : Int)) false = A at h ⊢
      have hA5 : nl A ≤ 512 := by rw [← hA]; exact movW_ok _ _ _
      generalize hT : movW 2 D false = T at h ⊢
      have hT5 : nl T ≤ 512 := by rw [← hT]; exact movW_ok _ _ _
      refine Loop.keep [1, 6, 2] LSt (fun x => [(9, natS x.za x.a), (10, natS x.zb x.b), (12, natS x.zs x.s), (13, .int .i64 x.i)]) (fun _ => []) [] (fun x => x.i ≤ p ∧ logL T D p A A K = logL T D (p - x.i) x.a x.b x.s ∧ nl x.a ≤ 512 ∧ nl x.b ≤ 512 ∧ nl x.s ≤ 512) (fun x => p - x.i) ?_ ?_
      · refine ⟨⟨0, A, A, K, z, z, false⟩, ⟨by simp only; omega, rfl, hA5, hA5, hKw⟩, ?_⟩
        dsimp only [natS, go_sem, reduceIte]
        simp only [fin_all, imp_self, implies_true, true_and, and_true]
        try simp
      · rintro ⟨i, a, b, S, za, zb, zs⟩ ⟨hi, he, ha5, hb5, hs5⟩
        dsimp only at hi he ha5 hb5 hs5
        dsimp only [RA2_ct73, RA2_ct60, RA2_ct67, RA2_ct69, RA2_ct75, RA2_ct68, len64C, aboveC, addWC, numWC, timesWC, movC, natS, go_sem, reduceIte]
        simp only [t_all, forall_const, ne_eq, implies_true, Nat.reduceAdd, Nat.reduceLeDiff, reduceCtorEq, Nat.reduceEqDiff]
        have eD : IntKind.i64.wrap (0 - D) = -D := by rw [IntWalk.i64_in _ (by omega)]; omega
        have ei : IntKind.i64.wrap ((p : Int) - (i : Int)) = ((p - i : Nat) : Int) := by rw [IntWalk.i64_in _ (by omega)]; omega
        have h1w : nl 1 ≤ 512 := by have := @nl_64 1 (by decide); omega
        have h0w : nl 0 ≤ 512 := by rw [nl_0]; omega
        rw [eD, ei]
        refine ⟨fun hlt => ?_, fun hge => ⟨by decide, S, 1, ⟨okW_nl hs5, okW_nl h1w⟩, fun y => ?_⟩⟩
        · obtain ⟨q, hq⟩ : ∃ q, p - i = q + 1 := ⟨p - i - 1, by omega⟩
          rw [hq, logL] at he
          obtain ⟨a1, ha1⟩ : ∃ a1, a1 = movW (mulW a a) (-D) false := ⟨_, rfl⟩
          obtain ⟨b1, hb1⟩ : ∃ b1, b1 = movW (mulW b b) (-D) true := ⟨_, rfl⟩
          have ha15 : nl a1 ≤ 512 := by rw [ha1]; exact movW_ok _ _ _
          have hb15 : nl b1 ≤ 512 := by rw [hb1]; exact movW_ok _ _ _
          rw [← ha1, ← hb1] at he
          refine ⟨a, a, ⟨okW_nl ha5, okW_nl ha5⟩, fun _ => ⟨mulW a a, ⟨okW_nl (mulW_ok _ _), by omega, by omega⟩, fun y1 => ⟨b, b, ⟨okW_nl hb5, okW_nl hb5⟩, fun _ => ⟨mulW b b, ⟨okW_nl (mulW_ok _ _), by omega, by omega⟩, fun y2 => ?_⟩⟩⟩⟩
          rw [← ha1, ← hb1]
          refine ⟨T, a1, ⟨okW_nl hT5, okW_nl ha15⟩, fun hc => ?_, fun hc => ⟨T, b1, ⟨okW_nl hT5, okW_nl hb15⟩, fun hd => ?_, fun hd => ?_⟩⟩
          · rw [if_neg hc] at he
            refine ⟨a1, ⟨okW_nl ha15, by decide, by decide⟩, fun y3 => ⟨b1, ⟨okW_nl hb15, by decide, by decide⟩, fun y4 => ⟨S, ⟨okW_nl hs5, by decide, by decide⟩, fun _ => ⟨by decide, movW S 1 false, 1, ⟨okW_nl (movW_ok _ _ _), okW_nl h1w⟩, fun y5 => ?_⟩⟩⟩⟩
            refine ⟨⟨i + 1, movW a1 (-1) false, movW b1 (-1) true, addW (movW S 1 false) 1, y3, y4, y5⟩, ⟨by simp only; omega, ?_, movW_ok a1 (-1) false, movW_ok b1 (-1) true, addW_ok (movW S 1 false) 1⟩, by simp only; omega, ?_⟩
            · rw [show p - (i + 1) = q by omega]; exact he
            · rw [IntWalk.i64_in ((i : Int) + 1) (by omega)]
              simp only [fin_all, imp_self, implies_true, true_and, and_true]
              simp
          · rw [if_pos hc, if_neg hd] at he
            refine ⟨S, ⟨okW_nl hs5, by omega, by omega⟩, fun y3 => ⟨by decide, S, 1, ⟨okW_nl hs5, okW_nl h1w⟩, addW S 1, ⟨okW_nl (addW_ok _ _), by omega, by omega⟩, fun y4 => ?_⟩⟩
            have h : k (.tup [natS y3 (logL T D p A A K).1, natS y4 (logL T D p A A K).2]) [] := h y3 y4
            rw [he] at h
            rw [hq]
            exact ans_ww h
          · rw [if_pos hc, if_pos hd] at he
            refine ⟨S, ⟨okW_nl hs5, by decide, by decide⟩, fun _ => ⟨by decide, movW S 1 false, 0, ⟨okW_nl (movW_ok _ _ _), okW_nl h0w⟩, fun y5 => ?_⟩⟩
            refine ⟨⟨i + 1, a1, b1, addW (movW S 1 false) 0, y1, y2, y5⟩, ⟨by simp only; omega, ?_, ha15, hb15, addW_ok (movW S 1 false) 0⟩, by simp only; omega, ?_⟩
            · rw [show p - (i + 1) = q by omega]; exact he
            · rw [IntWalk.i64_in ((i : Int) + 1) (by omega)]
              simp only [fin_all, imp_self, implies_true, true_and, and_true]
              simp
        · have h : k (.tup [natS zs (logL T D p A A K).1, natS y (logL T D p A A K).2]) [] := h zs y
          rw [he, show p - i = 0 by omega, logL] at h
          exact ans_ww h
  · exact h.1.elim
end Go.Proofs.Ytmgfmkbniaepcaa
set_option linter.all false
namespace Go.Proofs.Ytmgfmkbniaepcaa
open Go Go.Vx
set_option maxRecDepth 100000
set_option maxHeartbeats 4000000
def v71 : VF := { ntmps := 12, res := [.tmp 4], body :=
 (.seq (.region [u1 4 .mov [.cn (.int .i64 0)]])
 (.seq (.block 0 (.loop (.seq (.seq (.region [u1 5 .mov [.tm 1],
 u1 6 (.cmp .neq) [.tm 5, .cn (.int .i64 0)]])
 (.cond (.tm 6) .skip
  (.exit 0)))
 (.block 1 (.draw [] [w1 7 .mov [.tm 1],
 w1 8 .mov [.tm 0],
 w1 9 .mov [.tm 1],
 w1 10 .rem [.tm 8, .tm 9],
 w1 0 .mov [.tm 7],
 w1 1 .mov [.tm 10]])))))
 (.seq (.region [u1 11 .mov [.tm 0],
 u1 4 .mov [.tm 11]])
 .ret))) }
theorem v71_is : vfunc Try.prog Try.f71 = some v71 := by kernel_rfl
def v59 : VF := { ntmps := 58, res := [.cell 4 true 2, .cell 5 true 2], body :=
 (.seq (.region [u1 4 (.alloc [.nil, .nil]) [],
 u1 5 (.alloc [.nil, .nil]) []])
 (.seq (.seq (.region [u1 12 .mov [.tm 0],
 u1 13 .len [.tm 12],
 u1 14 .mov [.cn (.int .i64 0)]])
 (.block 0 (.loop (.seq (.region [u1 15 (.cmp .lss) [.tm 14, .tm 13]])
 (.seq (.cond (.tm 15) .skip
  (.exit 0))
 (.seq (.block 1 (.seq (.region [u1 16 (.idxAddr 2) [.tm 12, .tm 14],
 u1 17 (.load true 2) [.tm 16],
 u1 7 (.alloc [(.int .i64 0), (.int .i64 0)]) [],
 u0 (.store 2) [.tm 7, .tm 17]])
 (.seq (.region [u1 19 (.fieldAddr 0) [.tm 7],
 u1 20 (.load false 1) [.tm 19],
 u1 21 .mov [.tm 1],
 u1 22 (.call 66) [.tm 20, .tm 21],
 u1 18 .mov [.tm 22],
 u1 23 (.ext 0) [.tm 18],
 u1 24 (.ext 1) [.tm 18],
 u1 8 .mov [.tm 23],
 u1 9 .mov [.tm 24]])
 (.seq (.draw [] [w1 25 (.fieldAddr 1) [.tm 7],
 w1 26 (.load false 1) [.tm 25],
 w1 10 .mov [.tm 4],
 w1 11 .mov [.tm 26]])
 (.seq (.seq (.region [u1 27 .mov [.tm 11],
 u1 28 (.cmp .lss) [.tm 27, .cn (.int .i64 0)]])
 (.cond (.tm 28) (.region [u1 29 .mov [.tm 11],
 u1 30 .neg [.tm 29],
 u1 10 .mov [.tm 5],
 u1 11 .mov [.tm 30]])
  .skip))
 (.draw [] [w1 31 .mov [.tm 10],
 w1 32 .mov [.tm 10],
 w1 33 .mov [.tm 10],
 w1 34 .nilCheck [.tm 33],
 w1 35 (.fieldAddr 0) [.tm 34],
 w1 36 (.load false 1) [.tm 35],
 w1 37 .mov [.tm 8],
 w1 38 .mov [.tm 11],
 w1 42 .mov [.tm 10],
 w1 43 .nilCheck [.tm 42],
 w1 44 (.fieldAddr 1) [.tm 43],
 w1 45 (.load false 1) [.tm 44],
 w1 46 .mov [.tm 9],
 w1 47 .mov [.tm 11],
 w1 39 (.call 69) [.tm 38],
 w1 40 (.call 68) [.tm 37, .tm 39],
 w1 41 (.call 67) [.tm 36, .tm 40],
 w1 48 (.call 69) [.tm 47],
 w1 49 (.call 68) [.tm 46, .tm 48],
 w1 50 (.call 67) [.tm 45, .tm 49],
 w1 51 .nilCheck [.tm 31],
 w1 52 (.fieldAddr 0) [.tm 51],
 w0 (.store 1) [.tm 52, .tm 41],
 w1 53 .nilCheck [.tm 32],
 w1 54 (.fieldAddr 1) [.tm 53],
 w0 (.store 1) [.tm 54, .tm 50]]))))))
 (.region [u1 55 (.ari .add) [.tm 14, .cn (.int .i64 1)],
 u1 14 .mov [.tm 55]])))))))
 (.seq (.region [u1 56 (.load true 2) [.tm 4],
 u1 57 (.load true 2) [.tm 5],
 u0 (.store 2) [.tm 4, .tm 56],
 u0 (.store 2) [.tm 5, .tm 57]])
 .ret))) }
theorem v59_is : vfunc Try.prog Try.f59 = some v59 := by kernel_rfl
def gcdC : Ctr := { alias := false, of := fun l => match l with
  | [.int .i64 a, .int .i64 b] => .ex Nat fun x => .ex Nat fun y => .pre (a = x ∧ b = y ∧ x ≤ 9223372036854775807 ∧ y ≤ 9223372036854775807) (.fin (.int .i64 (Nat.gcd x y)) [])
  | _ => noC }
def RA3 : Env := { ct := fun _ => none, fn := fun _ => none, meth := fun _ _ => none }
theorem RA3_ok : EnvOk Try.prog RA3 := by
  refine ⟨fun f c h => ?_, fun f vf h => ?_, (fun _ _ _ h => by cases h), by kernel_rfl, (fun _ h => by cases h)⟩
  · cases h
  · cases h
theorem gcd_c : gcdC.ok Try.prog 71 := by
  refine contract Try.func71 v71_is RA3_ok 100 gcdC fun args k h => ?_
  simp only [gcdC] at h
  split at h
  · rename_i a b
    obtain ⟨x, y, ⟨rfl, rfl, hx, hy⟩, h⟩ := h
    refine ⟨[.int .i64 x, .int .i64 y], by simp [leL, le], ?_⟩
    dsimp only [v71, go_sem, reduceIte]
    simp only [t_all, forall_const, ne_eq, implies_true, Nat.reduceAdd, Nat.reduceLeDiff, reduceCtorEq, Nat.reduceEqDiff]
    refine Loop.keep [] (Nat × Nat) (fun s => [(0, .int .i64 s.1), (1, .int .i64 s.2)]) (fun _ => []) [] (fun s => Nat.gcd s.1 s.2 = Nat.gcd x y ∧ s.1 ≤ 9223372036854775807 ∧ s.2 ≤ 9223372036854775807) (fun s => s.2) ?_ ?_
    · refine ⟨(x, y), ⟨rfl, hx, hy⟩, ?_⟩
      dsimp only [go_sem, reduceIte]
      simp only [fin_all, imp_self, implies_true, true_and, and_true]
    · rintro ⟨p, q⟩ ⟨he, hp, hq⟩
      dsimp only at he hp hq
      dsimp only [go_sem, reduceIte]
      simp only [t_all, forall_const, ne_eq, implies_true, Nat.reduceAdd, Nat.reduceLeDiff, reduceCtorEq, Nat.reduceEqDiff]
      refine ⟨fun hc => ⟨hc, (q, p % q), ⟨?_, by simp only; omega, ?_⟩, ?_, ?_⟩, fun hc => ans_int ?_⟩
      · rw [← he, Nat.gcd_comm p q]
        show Nat.gcd q (p % q) = Nat.gcd q p
        rw [Nat.gcd_comm q (p % q), ← Nat.gcd_rec]
      · have := Nat.mod_lt p (by omega : 0 < q)
        simp only; omega
      · exact Nat.mod_lt p (by omega : 0 < q)
      · have e : (p : Int).tmod q = ((p % q : Nat) : Int) := IntWalk.up_tmod rfl rfl
        rw [e]
        simp only [fin_all, imp_self, implies_true, true_and, and_true]
      · obtain rfl : q = 0 := by omega
        rw [Nat.gcd_zero_right] at he
        rw [he]; exact h
  · exact h.1.elim
structure Bnd where
  ul : Nat
  uh : Nat
  dl : Nat
  dh : Nat
def sumsS (p : Nat) (s : Bnd) (x : Int × Int) : Bnd :=
  if x.2 < 0 then { s with dl := addW s.dl (mulW (logF x.1 p).1 (-x.2).toNat), dh := addW s.dh (mulW (logF x.1 p).2 (-x.2).toNat) }
  else { s with ul := addW s.ul (mulW (logF x.1 p).1 x.2.toNat), uh := addW s.uh (mulW (logF x.1 p).2 x.2.toNat) }
def sumsF (l : List (Int × Int)) (p : Nat) : Bnd := l.foldl (sumsS p) ⟨0, 0, 0, 0⟩
def okT (x : Int × Int) : Prop := 1 ≤ x.1 ∧ x.1 ≤ 1000000000001 ∧ -1000000000 ≤ x.2 ∧ x.2 ≤ 1000000000
def Bnd.ok (s : Bnd) : Prop := nl s.ul ≤ 512 ∧ nl s.uh ≤ 512 ∧ nl s.dl ≤ 512 ∧ nl s.dh ≤ 512
theorem sumsS_ok (p : Nat) (s : Bnd) (x : Int × Int) (h : s.ok) : (sumsS p s x).ok := by
  obtain ⟨h1, h2, h3, h4⟩ := h
  unfold sumsS
  split
  · exact ⟨h1, h2, addW_ok _ _, addW_ok _ _⟩
  · exact ⟨addW_ok _ _, addW_ok _ _, h3, h4⟩
def sumsC : Ctr := { alias := false, of := fun l => match l with
  | [.vs _ _ n sz get, .int .i64 p] => .ex (List (Int × Int)) fun l => .ex Nat fun q => .pre (lsP 2 enc2 n sz get l ∧ (∀ x, x ∈ l → okT x) ∧ n ≤ 100 ∧ p = q ∧ q ≤ 2048)
      (.all Bool fun y1 => .all Bool fun y2 => .all Bool fun y3 => .all Bool fun y4 => .fin (.tup [.agg [natS y1 (sumsF l q).ul, natS y2 (sumsF l q).uh], .agg [natS y3 (sumsF l q).dl, natS y4 (sumsF l q).dh]]) [])
  | _ => noC }
def RA4 : Env := { ct := fun n => match n with | 67 => some addWC | 68 => some timesWC | 69 => some numWC | 66 => some logC | _ => none, fn := fun _ => none, meth := fun _ _ => none }
theorem RA4_ct67 : RA4.ct 67 = some addWC := rfl
theorem RA4_ct68 : RA4.ct 68 = some timesWC := rfl
theorem RA4_ct69 : RA4.ct 69 = some numWC := rfl
theorem RA4_ct66 : RA4.ct 66 = some logC := rfl
theorem RA4_ok : EnvOk Try.prog RA4 := by
  refine ⟨fun f c h => ?_, fun f vf h => ?_, (fun _ _ _ h => by cases h), by kernel_rfl, (fun _ h => by cases h)⟩
  · simp only [RA4] at h
    split at h
    · cases h; exact ⟨addW_c, Try.f67, Try.func67, by kernel_rfl, by kernel_rfl⟩
    · cases h; exact ⟨mulW_c, Try.f68, Try.func68, by kernel_rfl, by kernel_rfl⟩
    · cases h; exact ⟨numW_ok, Try.f69, Try.func69, by kernel_rfl, by kernel_rfl⟩
    · cases h; exact ⟨log_c, Try.f66, Try.func66, by kernel_rfl, by kernel_rfl⟩
    · cases h
  · cases h
structure SSt where
  i : Nat
  b : Bnd
  y1 : Bool
  y2 : Bool
  y3 : Bool
  y4 : Bool
theorem sums_c : sumsC.ok Try.prog 59 := by
  refine contract Try.func59 v59_is RA4_ok 500 sumsC fun args k h => ?_
  simp only [sumsC] at h
  split at h
  · rename_i tt z n sz get p'
    obtain ⟨l, p, ⟨⟨rfl, rfl, hg⟩, hl, hn, rfl, hp⟩, h⟩ := h
    refine ⟨[.vs tt z l.length 2 (fun k => enc2 (l.getD k default)), .int .i64 p], ⟨⟨id, rfl, rfl, rfl, hg⟩, ⟨rfl, rfl⟩, trivial⟩, ?_⟩
    dsimp only [v59, enc2, go_sem, reduceIte]
    simp only [t_all, forall_const, ne_eq, implies_true, Nat.reduceAdd, Nat.reduceLeDiff, reduceCtorEq, Nat.reduceEqDiff]
    refine Loop.keep [0, 0, 2, 0, 6, 0] SSt (fun s => [(14, .int .i64 s.i)]) (fun s => [(0, .box [natS s.y1 s.b.ul, natS s.y2 s.b.uh]), (1, .box [natS s.y3 s.b.dl, natS s.y4 s.b.dh])]) [] (fun s => s.i ≤ l.length ∧ s.b = (l.take s.i).foldl (sumsS p) ⟨0, 0, 0, 0⟩ ∧ s.b.ok) (fun s => l.length - s.i) ?_ ?_
    · refine ⟨⟨0, ⟨0, 0, 0, 0⟩, true, true, true, true⟩, ⟨by simp only; omega, rfl, by simp [Bnd.ok, nl_0]⟩, ?_⟩
      dsimp only [natS, go_sem, reduceIte]
      simp only [fin_all, imp_self, implies_true, true_and, and_true]
      simp [nl_0]
    · rintro ⟨i, B, y1, y2, y3, y4⟩ ⟨hi, hB, hok⟩
      dsimp only at hi hB hok
      dsimp only [RA4_ct66, RA4_ct67, RA4_ct69, RA4_ct68, logC, addWC, numWC, timesWC, natS, enc2, Int.toNat_natCast, go_sem, reduceIte]
      simp only [t_all, forall_const, ne_eq, implies_true, Nat.reduceAdd, Nat.reduceLeDiff, reduceCtorEq, Nat.reduceEqDiff]
      refine ⟨fun hlt => ?_, fun hge => ?_⟩
      · have hx := hl _ (getD_mem (by omega : i < l.length))
        generalize hxe : l.getD i default = x at hx ⊢
        obtain ⟨q0, q1, q2, q3⟩ := hx
        have hstep : (l.take (i + 1)).foldl (sumsS p) ⟨0, 0, 0, 0⟩ = sumsS p B x := by
          rw [foldl_take_succ (by omega), ← hB, hxe]
        obtain ⟨g1, g2⟩ := logF_ok x.1 p (by omega)
        obtain ⟨o1, o2, o3, o4⟩ := hok
        refine ⟨⟨by omega, by omega⟩, p, ⟨q0, by omega, rfl, hp⟩, fun z1 z2 => ⟨by decide, by decide, fun hc => ?_, fun hc => ?_⟩⟩
        · have en : IntKind.i64.wrap (0 - x.2) = -x.2 := by rw [IntWalk.i64_in _ (by omega)]; omega
          rw [en]
          have hnw : nl (-x.2).toNat ≤ 512 := by have := @nl_64 (-x.2).toNat (by omega); omega
          refine ⟨⟨by omega, by omega⟩, (logF x.1 p).1, (-x.2).toNat, ⟨okW_nl g1, okW_nl hnw⟩, fun _ => ⟨B.dl, mulW (logF x.1 p).1 (-x.2).toNat, ⟨okW_nl o3, okW_nl (mulW_ok _ _)⟩, fun z3 => ⟨⟨by omega, by omega⟩, (logF x.1 p).2, (-x.2).toNat, ⟨okW_nl g2, okW_nl hnw⟩, fun _ => ⟨B.dh, mulW (logF x.1 p).2 (-x.2).toNat, ⟨okW_nl o4, okW_nl (mulW_ok _ _)⟩, fun z4 => ?_⟩⟩⟩⟩
          refine ⟨⟨i + 1, sumsS p B x, y1, y2, z3, z4⟩, ⟨by simp only; omega, hstep.symm, sumsS_ok p B x ⟨o1, o2, o3, o4⟩⟩, by simp only; omega, ?_⟩
          simp only [sumsS, if_pos hc]
          rw [IntWalk.i64_in ((i : Int) + 1) (by omega)]
          simp only [fin_all, imp_self, implies_true, true_and, and_true]
          exact ⟨by decide, by decide, by simp⟩
        · have hnw : nl x.2.toNat ≤ 512 := by have := @nl_64 x.2.toNat (by omega); omega
          refine ⟨⟨by omega, by omega⟩, (logF x.1 p).1, x.2.toNat, ⟨okW_nl g1, okW_nl hnw⟩, fun _ => ⟨B.ul, mulW (logF x.1 p).1 x.2.toNat, ⟨okW_nl o1, okW_nl (mulW_ok _ _)⟩, fun z3 => ⟨⟨by omega, by omega⟩, (logF x.1 p).2, x.2.toNat, ⟨okW_nl g2, okW_nl hnw⟩, fun _ => ⟨B.uh, mulW (logF x.1 p).2 x.2.toNat, ⟨okW_nl o2, okW_nl (mulW_ok _ _)⟩, fun z4 => ?_⟩⟩⟩⟩
          refine ⟨⟨i + 1, sumsS p B x, z3, z4, y3, y4⟩, ⟨by simp only; omega, hstep.symm, sumsS_ok p B x ⟨o1, o2, o3, o4⟩⟩, by simp only; omega, ?_⟩
          simp only [sumsS, if_neg hc]
          rw [IntWalk.i64_in ((i : Int) + 1) (by omega)]
          simp only [fin_all, imp_self, implies_true, true_and, and_true]
          exact ⟨by decide, by decide, by simp⟩
      · obtain rfl : i = l.length := by omega
        rw [List.take_length] at hB
        have h : k (.tup [.agg [natS y1 (sumsF l p).ul, natS y2 (sumsF l p).uh], .agg [natS y3 (sumsF l p).dl, natS y4 (sumsF l p).dh]]) [] := h y1 y2 y3 y4
        rw [sumsF, ← hB] at h
        exact ans_le h (le_self _ ⟨⟨trivial, trivial, trivial⟩, ⟨trivial, trivial, trivial⟩, trivial⟩) (fun _ => by simp [natS, freshS, freshL])
  · exact h.1.elim
end Go.Proofs.Ytmgfmkbniaepcaa
