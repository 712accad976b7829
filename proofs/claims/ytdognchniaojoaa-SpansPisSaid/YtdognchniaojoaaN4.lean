/- Words of 64 bits, in plain Lean: products and quotients of two words. -/
import Derived.Test.YtdognchniaojoaaN3
import Derived.Lib.BitFns
set_option linter.all false
namespace Go.Proofs.Ytdognchniaojoaa
open Go Go.Vx

theorem ofInt_nat6 {x : Nat} (h : x < 18446744073709551616) : (BitVec.ofInt 64 (x : Int)).toNat = x := by
  simp [BitVec.toNat_ofInt]; omega
theorem and_mask {x : Nat} (h : x < 18446744073709551616) : IntKind.u64.wrap ((BitVec.ofInt 64 (x : Int) &&& BitVec.ofInt 64 4294967295).toNat : Int) = ((x % 4294967296 : Nat) : Int) := by
  have h2 : (BitVec.ofInt 64 4294967295).toNat = 2 ^ 32 - 1 := by decide
  rw [BitVec.toNat_and, ofInt_nat6 h, h2, Nat.and_two_pow_sub_one_eq_mod]
  exact u_nat (by omega)
theorem or_nat6 {x y : Nat} (hx : x < 18446744073709551616) (hy : y < 18446744073709551616) : IntKind.u64.wrap ((BitVec.ofInt 64 (x : Int) ||| BitVec.ofInt 64 (y : Int)).toNat : Int) = ((x ||| y : Nat) : Int) := by
  rw [BitVec.toNat_or, ofInt_nat6 hx, ofInt_nat6 hy]
  exact u_nat (Nat.or_lt_two_pow (n := 64) hx hy)
theorem shr_nat {x s : Nat} (hs : s ≤ 64) : (x : Int).fdiv (2 ^ min s 64) = ((x / 2 ^ s : Nat) : Int) := by
  rw [Nat.min_eq_left hs, Int.fdiv_eq_ediv_of_nonneg _ (Int.le_of_lt (Int.pow_pos (by decide)))]
  simp
theorem shl_nat {x s : Nat} (hs : s ≤ 64) (h : x * 2 ^ s < 18446744073709551616) : IntKind.u64.wrap ((x : Int) * 2 ^ min s 64) = ((x * 2 ^ s : Nat) : Int) := by
  rw [Nat.min_eq_left hs]
  have : (x : Int) * 2 ^ s = ((x * 2 ^ s : Nat) : Int) := by simp
  rw [this]; exact u_nat h
theorem u_mod (x : Int) : IntKind.u64.wrap x = x % 18446744073709551616 := by
  rw [IntKind.wrap_u64]
theorem u_modn (x : Nat) : IntKind.u64.wrap (x : Int) = ((x % 18446744073709551616 : Nat) : Int) := by
  rw [u_mod]; simp

/-- The higher word of a product. -/
theorem mul_hi {x y : Nat} (hx : x < 18446744073709551616) (hy : y < 18446744073709551616) :
    let x0 := x % 4294967296; let x1 := x / 4294967296; let y0 := y % 4294967296; let y1 := y / 4294967296
    let t := x1 * y0 + x0 * y0 / 4294967296
    let w1 := t % 4294967296 + x0 * y1
    x1 * y1 + t / 4294967296 + w1 / 4294967296 = x * y / 18446744073709551616 ∧ x0 * y0 < 18446744073709551616 ∧ x1 * y0 < 18446744073709551616 ∧ t < 18446744073709551616 ∧ x0 * y1 < 18446744073709551616 ∧ w1 < 18446744073709551616 ∧ x1 * y1 < 18446744073709551616 ∧ x1 * y1 + t / 4294967296 < 18446744073709551616 ∧ x1 * y1 + t / 4294967296 + w1 / 4294967296 < 18446744073709551616 := by
  intro x0 x1 y0 y1 t w1
  have e1 : x = 4294967296 * x1 + x0 := (Nat.div_add_mod x _).symm
  have e2 : y = 4294967296 * y1 + y0 := (Nat.div_add_mod y _).symm
  have h0 : x0 < 4294967296 := Nat.mod_lt _ (by decide)
  have h1 : y0 < 4294967296 := Nat.mod_lt _ (by decide)
  have h2 : x1 < 4294967296 := by omega
  have h3 : y1 < 4294967296 := by omega
  have m : ∀ {a b : Nat}, a < 4294967296 → b < 4294967296 → a * b ≤ 4294967295 * 4294967295 := fun ha hb => Nat.mul_le_mul (by omega) (by omega)
  have p1 := m h0 h1
  have p2 := m h2 h1
  have p3 := m h0 h3
  have p4 := m h2 h3
  have e : x * y = 18446744073709551616 * (x1 * y1) + 4294967296 * (x1 * y0 + x0 * y1) + x0 * y0 := by
    rw [e1, e2]; grind
  have ht : t = x1 * y0 + x0 * y0 / 4294967296 := rfl
  have hw : w1 = t % 4294967296 + x0 * y1 := rfl
  rw [e]
  generalize x0 * y0 = A at *
  generalize x1 * y0 = B at *
  generalize x0 * y1 = C at *
  generalize x1 * y1 = D at *
  omega

/-! ### A digit of a quotient -/

/-- What the loop finds: q is at least the digit; the rest fits. -/
structure DigInv (y1 y0 a u q r : Nat) : Prop where
  eq : q * y1 + r = a
  ge : (a * 4294967296 + u) / (y1 * 4294967296 + y0) ≤ q
  le : q ≤ 4294967297

theorem dig_iff {y1 y0 a u q r : Nat} (hy : 0 < y1) (h : q * y1 + r = a) : q * (y1 * 4294967296 + y0) ≤ a * 4294967296 + u ↔ q * y0 ≤ 4294967296 * r + u := by
  have e : q * (y1 * 4294967296 + y0) = q * y1 * 4294967296 + q * y0 := by grind
  rw [e, ← h]
  generalize q * y1 = A
  generalize q * y0 = B
  omega
theorem dig_start {y1 y0 a u : Nat} (h1 : 2147483648 ≤ y1) (h0 : y0 < 4294967296) (ha : a < y1 * 4294967296 + y0) (hu : u < 4294967296) : DigInv y1 y0 a u (a / y1) (a - a / y1 * y1) ∧ a - a / y1 * y1 < 4294967296 ∨ 4294967296 ≤ y1 := by
  rcases Nat.lt_or_ge y1 4294967296 with hy | hy
  · left
    have hp : 0 < y1 := by omega
    have e := Nat.div_add_mod a y1
    have hm := Nat.mod_lt a hp
    rw [Nat.mul_comm] at e
    refine ⟨⟨by omega, ?_, ?_⟩, by omega⟩
    · rw [← Nat.lt_add_one_iff, Nat.div_lt_iff_lt_mul (by omega)]
      have : (a / y1 + 1) * (y1 * 4294967296 + y0) = (a / y1 * y1 + y1) * 4294967296 + (a / y1 + 1) * y0 := by grind
      rw [this]
      have : (0 : Nat) ≤ (a / y1 + 1) * y0 := Nat.zero_le _
      omega
    · rw [← Nat.lt_add_one_iff, Nat.div_lt_iff_lt_mul hp]
      omega
  · exact .inr hy
/-- The digit is found. -/
theorem dig_end {y1 y0 a u q r : Nat} (h : DigInv y1 y0 a u q r) (hy : 0 < y1) (hle : q * y0 ≤ 4294967296 * r + u) : q = (a * 4294967296 + u) / (y1 * 4294967296 + y0) := by
  have h1 := (dig_iff (u := u) (y0 := y0) hy h.eq).2 hle
  have h2 := (Nat.le_div_iff_mul_le (by omega)).2 h1
  have := h.ge
  omega
theorem dig_next {y1 y0 a u q r : Nat} (h : DigInv y1 y0 a u q r) (hy : 0 < y1) (ha : a < y1 * 4294967296 + y0) (hu : u < 4294967296) (hc : 4294967296 ≤ q ∨ 4294967296 * r + u < q * y0) : 0 < q ∧ DigInv y1 y0 a u (q - 1) (r + y1) := by
  have hlt : (a * 4294967296 + u) / (y1 * 4294967296 + y0) < q := by
    rcases hc with hc | hc
    · have : (a * 4294967296 + u) / (y1 * 4294967296 + y0) < 4294967296 := by
        rw [Nat.div_lt_iff_lt_mul (by omega)]; omega
      exact Nat.lt_of_lt_of_le this hc
    · rw [Nat.div_lt_iff_lt_mul (by omega)]
      refine Nat.lt_of_not_le fun hh => ?_
      have := (dig_iff (u := u) (y0 := y0) hy h.eq).1 hh
      omega
  have h1 := h.eq
  have h2 := h.le
  have hq : 0 < q := Nat.lt_of_le_of_lt (Nat.zero_le _) hlt
  refine ⟨hq, ⟨?_, by omega, by omega⟩⟩
  obtain ⟨m, rfl⟩ : ∃ m, q = m + 1 := ⟨q - 1, by omega⟩
  rw [Nat.add_sub_cancel]
  rw [Nat.succ_mul] at h1
  omega
theorem dig_break {y1 y0 a u q r : Nat} (h : DigInv y1 y0 a u q r) (hy : 0 < y1) (h0 : y0 < 4294967296) (hq : q ≤ 4294967296) (hr : 4294967296 ≤ r) : q = (a * 4294967296 + u) / (y1 * 4294967296 + y0) := by
  refine dig_end h hy ?_
  have : q * y0 ≤ 4294967296 * 4294967295 := Nat.mul_le_mul hq (by omega)
  omega

/-- Two digits: the quotient and the rest. -/
theorem two_digits' {M y a u1 u0 q1 r1 q0 r0 : Nat} (hy : 0 < y) (hq1 : q1 = (a * M + u1) / y) (hr1 : r1 = (a * M + u1) % y) (hq0 : q0 = (r1 * M + u0) / y) (hr0 : r0 = (r1 * M + u0) % y) :
    q1 * M + q0 = (a * (M * M) + (u1 * M + u0)) / y ∧ r0 = (a * (M * M) + (u1 * M + u0)) % y := by
  have e1 := Nat.div_add_mod (a * M + u1) y
  have e2 := Nat.div_add_mod (r1 * M + u0) y
  have hm := Nat.mod_lt (r1 * M + u0) hy
  rw [← hq1, ← hr1] at e1
  rw [← hq0, ← hr0] at e2
  rw [← hr0] at hm
  have e3 : a * (M * M) + (u1 * M + u0) = y * (q1 * M + q0) + r0 := by
    have : a * (M * M) + (u1 * M + u0) = (a * M + u1) * M + u0 := by grind
    rw [this, ← e1]
    have : (y * q1 + r1) * M + u0 = y * q1 * M + (r1 * M + u0) := by grind
    rw [this, ← e2]
    grind
  rw [e3, Nat.mul_add_div hy, Nat.div_eq_of_lt hm, Nat.mul_add_mod, Nat.mod_eq_of_lt hm]
  exact ⟨rfl, rfl⟩
theorem sub_mod {x y q : Nat} (hq : q = x / y) : x - q * y = x % y := by
  have := Nat.div_add_mod x y
  rw [Nat.mul_comm, ← hq] at this
  omega
theorem two_digits {y a u1 u0 q1 q0 r1 : Nat} (hy : 0 < y) (hq1 : q1 = (a * 4294967296 + u1) / y) (hr1 : r1 = (a * 4294967296 + u1) % y) (hq0 : q0 = (r1 * 4294967296 + u0) / y) :
    q1 * 4294967296 + q0 = (a * 18446744073709551616 + (u1 * 4294967296 + u0)) / y ∧ (r1 * 4294967296 + u0) % y = (a * 18446744073709551616 + (u1 * 4294967296 + u0)) % y :=
  two_digits' (M := 4294967296) hy hq1 hr1 hq0 rfl

/-! ### The two words, shifted -/

theorem norm_facts {y : Nat} (hy : y < 18446744073709551616) (h0 : 0 < y) : bitsN y ≤ 64 ∧ 9223372036854775808 ≤ y * 2 ^ (64 - bitsN y) ∧ y * 2 ^ (64 - bitsN y) < 18446744073709551616 := by
  have hb : bitsN y ≤ 64 := bitsN_le.2 hy
  have hpos : 0 < bitsN y := Nat.pos_of_ne_zero fun h => by have := bitsN_eq0.1 h; omega
  have h1 := bitsN_lt y
  have h2 : 2 ^ (bitsN y - 1) ≤ y := by
    rcases Nat.lt_or_ge y (2 ^ (bitsN y - 1)) with h | h
    · have := bitsN_le.2 h; omega
    · exact h
  refine ⟨hb, ?_, ?_⟩
  · have : 2 ^ (bitsN y - 1) * 2 ^ (64 - bitsN y) ≤ y * 2 ^ (64 - bitsN y) := Nat.mul_le_mul_right _ h2
    rw [← Nat.pow_add, show bitsN y - 1 + (64 - bitsN y) = 63 by omega] at this
    exact this
  · have : y * 2 ^ (64 - bitsN y) < 2 ^ bitsN y * 2 ^ (64 - bitsN y) := Nat.mul_lt_mul_of_pos_right h1 (p2_pos _)
    rw [← Nat.pow_add, show bitsN y + (64 - bitsN y) = 64 by omega] at this
    exact this
theorem hi_shift {h x s : Nat} (hs : s ≤ 64) (hx : x < 18446744073709551616) : (h * 2 ^ s ||| x / 2 ^ (64 - s)) = h * 2 ^ s + x / 2 ^ (64 - s) ∧ x / 2 ^ (64 - s) < 2 ^ s ∧ (h * 2 ^ s + x / 2 ^ (64 - s)) * 18446744073709551616 + x * 2 ^ s % 18446744073709551616 = (h * 18446744073709551616 + x) * 2 ^ s := by
  have e : (18446744073709551616 : Nat) = 2 ^ (64 - s) * 2 ^ s := by rw [← Nat.pow_add, show 64 - s + s = 64 by omega]
  have hl : x / 2 ^ (64 - s) < 2 ^ s := by
    rw [Nat.div_lt_iff_lt_mul (p2_pos _), Nat.mul_comm, ← e]; exact hx
  refine ⟨?_, hl, ?_⟩
  · rw [Nat.mul_comm h]; exact (Nat.two_pow_add_eq_or_of_lt hl h).symm
  · have h1 := Nat.div_add_mod x (2 ^ (64 - s))
    have e2 : x * 2 ^ s % 18446744073709551616 = x % 2 ^ (64 - s) * 2 ^ s := by
      rw [e]; exact Nat.mul_mod_mul_right _ _ _
    rw [e2, e]
    generalize 2 ^ (64 - s) = P at *
    generalize 2 ^ s = R at *
    generalize x / P = a at *
    generalize x % P = b at *
    subst h1
    grind

end Go.Proofs.Ytdognchniaojoaa
