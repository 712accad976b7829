/- Intervals, in plain Lean: what spans and its reference compute. -/
import Derived.Test.YtdognchniaojoaaN4
set_option linter.all false
namespace Go.Proofs.Ytdognchniaojoaa
open Go Go.Vx

abbrev Iv := Int × Int
def numOk (x : Int) : Bool := decide (-4611686018427387904 ≤ x) && decide (x ≤ 4611686018427387904)
def ivE (l : List Iv) : Int := if l.all (fun a => numOk a.1 && numOk a.2) then (if l.all (fun a => decide (a.1 ≤ a.2)) then 0 else 2) else 7

theorem ivE_bad {l : List Iv} {i : Nat} (h : i < l.length) (hb : (numOk (l.getD i default).1 && numOk (l.getD i default).2) = false) : ivE l = 7 := by
  rw [ivE, if_neg]
  intro hall
  have := List.all_eq_true.1 hall _ (getD_mem h)
  rw [hb] at this; cases this
theorem ivE_2 {l : List Iv} (ha : ∀ j, j < l.length → (numOk (l.getD j default).1 && numOk (l.getD j default).2) = true) {i : Nat} (h : i < l.length) (hb : (l.getD i default).2 < (l.getD i default).1) : ivE l = 2 := by
  rw [ivE, if_pos, if_neg]
  · intro hall
    have := List.all_eq_true.1 hall _ (getD_mem h)
    simp only [decide_eq_true_eq] at this; omega
  · refine List.all_eq_true.2 fun x hx => ?_
    obtain ⟨j, hj, rfl⟩ := mem_getD hx
    exact ha j hj
theorem ivE_0 {l : List Iv} (ha : ∀ j, j < l.length → (numOk (l.getD j default).1 && numOk (l.getD j default).2) = true) (hb : ∀ j, j < l.length → (l.getD j default).1 ≤ (l.getD j default).2) : ivE l = 0 := by
  rw [ivE, if_pos, if_pos]
  · refine List.all_eq_true.2 fun x hx => ?_
    obtain ⟨j, hj, rfl⟩ := mem_getD hx
    simpa using hb j hj
  · refine List.all_eq_true.2 fun x hx => ?_
    obtain ⟨j, hj, rfl⟩ := mem_getD hx
    exact ha j hj
theorem numOk_iff {x : Int} : numOk x = true ↔ -4611686018427387904 ≤ x ∧ x ≤ 4611686018427387904 := by
  simp [numOk]
theorem ivE1 {a : Iv} (h : ivE [a] = 0) : (-4611686018427387904 ≤ a.1 ∧ a.1 ≤ 4611686018427387904) ∧ (-4611686018427387904 ≤ a.2 ∧ a.2 ≤ 4611686018427387904) ∧ a.1 ≤ a.2 := by
  unfold ivE at h
  split at h
  · rename_i h1
    split at h
    · rename_i h2
      simp only [List.all_cons, List.all_nil, Bool.and_true, Bool.and_eq_true, decide_eq_true_eq] at h1 h2
      exact ⟨numOk_iff.1 h1.1, numOk_iff.1 h1.2, h2⟩
    · cases h
  · cases h
theorem ivE2 {a b : Iv} (h : ivE [a, b] = 0) : ((-4611686018427387904 ≤ a.1 ∧ a.1 ≤ 4611686018427387904) ∧ (-4611686018427387904 ≤ a.2 ∧ a.2 ≤ 4611686018427387904) ∧ a.1 ≤ a.2) ∧ (-4611686018427387904 ≤ b.1 ∧ b.1 ≤ 4611686018427387904) ∧ (-4611686018427387904 ≤ b.2 ∧ b.2 ≤ 4611686018427387904) ∧ b.1 ≤ b.2 := by
  unfold ivE at h
  split at h
  · rename_i h1
    split at h
    · rename_i h2
      simp only [List.all_cons, List.all_nil, Bool.and_true, Bool.and_eq_true, decide_eq_true_eq] at h1 h2
      exact ⟨⟨numOk_iff.1 h1.1.1, numOk_iff.1 h1.1.2, h2.1⟩, numOk_iff.1 h1.2.1, numOk_iff.1 h1.2.2, h2.2⟩
    · cases h
  · cases h

/-! ### Rounding -/

/-- A quotient, rounded down or up, if it is a bound. -/
def rndT (up : Bool) (x d : Int) : Int := if up then -((-x) / d) else x / d
def rndB (t : Int) : Int × Bool := if -4611686018427387904 ≤ t ∧ t ≤ 4611686018427387904 then (t, true) else (0, false)
def rndF (up : Bool) (x d : Int) : Int × Bool := rndB (rndT up x d)
def spanR (a b : Int × Bool) : Iv × Int := if a.2 && b.2 then ((a.1, b.1), 0) else ((0, 0), 7)
def lowI (x : Int) (r : List Int) : Int := r.foldl (fun low y => if y < low then y else low) x
def highI (x : Int) (r : List Int) : Int := r.foldl (fun high y => if high < y then y else high) x
/-- The span of the least and the greatest one of some products, divided. -/
def spanI (d : Int) (x : Int) (r : List Int) : Iv × Int := spanR (rndF false (lowI x r) d) (rndF true (highI x r) d)

theorem lowI_spec (x : Int) : ∀ (r : List Int), lowI x r ∈ x :: r ∧ ∀ y ∈ x :: r, lowI x r ≤ y := by
  intro r
  induction r generalizing x with
  | nil => exact ⟨List.mem_cons_self, fun y hy => by simp at hy; subst hy; exact Int.le_refl _⟩
  | cons a r ih =>
    have e : lowI x (a :: r) = lowI (if a < x then a else x) r := rfl
    rw [e]
    obtain ⟨h1, h2⟩ := ih (if a < x then a else x)
    have h3 := h2 _ List.mem_cons_self
    generalize lowI (if a < x then a else x) r = L at *
    refine ⟨?_, fun y hy => ?_⟩
    · rcases List.mem_cons.1 h1 with h | h
      · rw [h]; split <;> simp
      · simp [h]
    · rcases List.mem_cons.1 hy with rfl | hy
      · split at h3 <;> omega
      · rcases List.mem_cons.1 hy with rfl | hy
        · split at h3 <;> omega
        · exact h2 _ (List.mem_cons_of_mem _ hy)
theorem highI_spec (x : Int) : ∀ (r : List Int), highI x r ∈ x :: r ∧ ∀ y ∈ x :: r, y ≤ highI x r := by
  intro r
  induction r generalizing x with
  | nil => exact ⟨List.mem_cons_self, fun y hy => by simp at hy; subst hy; exact Int.le_refl _⟩
  | cons a r ih =>
    have e : highI x (a :: r) = highI (if x < a then a else x) r := rfl
    rw [e]
    obtain ⟨h1, h2⟩ := ih (if x < a then a else x)
    have h3 := h2 _ List.mem_cons_self
    generalize highI (if x < a then a else x) r = L at *
    refine ⟨?_, fun y hy => ?_⟩
    · rcases List.mem_cons.1 h1 with h | h
      · rw [h]; split <;> simp
      · simp [h]
    · rcases List.mem_cons.1 hy with rfl | hy
      · split at h3 <;> omega
      · rcases List.mem_cons.1 hy with rfl | hy
        · split at h3 <;> omega
        · exact h2 _ (List.mem_cons_of_mem _ hy)

/-- How a rounded quotient is computed by absolute values. -/
def bump (up neg : Bool) (r : Nat) : Nat := if decide (r ≠ 0) && (up != neg) then 1 else 0
theorem rnd_abs {up : Bool} {x : Int} {d : Nat} (hd : 0 < d) : rndT up x d = nsg (decide (x < 0)) (x.natAbs / d + bump up (decide (x < 0)) (x.natAbs % d)) := by
  have hm := Nat.mod_lt x.natAbs hd
  have e := Nat.div_add_mod x.natAbs d
  have pos : ∀ n : Nat, (n : Int) / (d : Int) = ((n / d : Nat) : Int) := fun n => (Int.natCast_ediv n d).symm
  have neg : ∀ n : Nat, (-(n : Int)) / (d : Int) = -(((n / d + if n % d = 0 then 0 else 1 : Nat)) : Int) := fun n => by
    have e := Nat.div_add_mod n d
    have hm := Nat.mod_lt n hd
    by_cases h0 : n % d = 0
    · rw [if_pos h0]
      have : (n : Int) = ((n / d : Nat) : Int) * (d : Int) := by
        have : n = n / d * d := by rw [Nat.mul_comm]; omega
        exact_mod_cast this
      conv => lhs; rw [this, ← Int.neg_mul]
      rw [Int.mul_ediv_cancel _ (by omega)]; simp
    · rw [if_neg h0]
      have hq : (n : Int) = (d : Int) * ((n / d : Nat) : Int) + ((n % d : Nat) : Int) := by exact_mod_cast e.symm
      apply Int.le_antisymm
      · apply Int.le_of_lt_add_one
        rw [Int.ediv_lt_iff_lt_mul (by omega)]
        conv => lhs; rw [hq]
        have hm : ((n % d : Nat) : Int) > 0 := by omega
        generalize n % d = m at *
        generalize n / d = q at *
        push_cast
        grind
      · rw [Int.le_ediv_iff_mul_le (by omega)]
        conv => rhs; rw [hq]
        have hm : ((n % d : Nat) : Int) < d := by omega
        generalize n % d = m at *
        generalize n / d = q at *
        push_cast
        grind
  obtain ⟨n, hn⟩ : ∃ n : Nat, n = x.natAbs := ⟨_, rfl⟩
  rw [← hn]
  unfold rndT bump nsg
  by_cases hx : x < 0
  · have ex : x = -(n : Int) := by omega
    cases up
    · simp only [hx, decide_true, if_true, Bool.false_eq_true, if_false]
      rw [ex, neg n]
      by_cases h0 : n % d = 0 <;> simp [h0]
    · simp only [hx, decide_true, if_true, bne_self_eq_false, Bool.and_false, Bool.false_eq_true, if_false]
      rw [ex, Int.neg_neg, pos n]; simp
  · have ex : x = (n : Int) := by omega
    cases up
    · simp only [hx, decide_false, Bool.false_eq_true, if_false, bne_self_eq_false, Bool.and_false]
      rw [ex, pos n]; simp
    · simp only [hx, decide_false, Bool.false_eq_true, if_false, if_true]
      rw [ex, neg n]
      by_cases h0 : n % d = 0 <;> simp [h0]

/-! ### Products of two words -/

def longE (v : Int) : List SV := [.bool (decide (v < 0)), .int .u64 ((v.natAbs / 18446744073709551616 : Nat) : Int), .int .u64 ((v.natAbs % 18446744073709551616 : Nat) : Int)]
def longP (x : Int) (n : Bool) (h l : Int) : Prop := n = decide (x < 0) ∧ h = ((x.natAbs / 18446744073709551616 : Nat) : Int) ∧ l = ((x.natAbs % 18446744073709551616 : Nat) : Int)
theorem longP_self (x : Int) : longP x (decide (x < 0)) ((x.natAbs / 18446744073709551616 : Nat) : Int) ((x.natAbs % 18446744073709551616 : Nat) : Int) := ⟨rfl, rfl, rfl⟩
def big (x : Int) : Prop := x.natAbs < 340282366920938463463374607431768211456

/-! ### What the functions return -/

def fitF (lo hi : Int) : Iv × Int := if numOk lo && numOk hi then ((lo, hi), 0) else ((0, 0), 7)
def errI (e : Int) : Iv × Int := ((0, 0), e)
def addF (a b : Iv) : Iv × Int := if ivE [a, b] ≠ 0 then errI (ivE [a, b]) else fitF (a.1 + b.1) (a.2 + b.2)
def subF (a b : Iv) : Iv × Int := if ivE [a, b] ≠ 0 then errI (ivE [a, b]) else addF a (-b.2, -b.1)
def mulF (a b : Iv) : Iv × Int := if ivE [a, b] ≠ 0 then errI (ivE [a, b]) else spanI 1 (a.1 * b.1) [a.1 * b.2, a.2 * b.1, a.2 * b.2]
def divPos (a b : Iv) : Iv × Int := spanR (rndF false a.1 (if a.1 < 0 then b.1 else b.2)) (rndF true a.2 (if a.2 < 0 then b.2 else b.1))
def quoF (a b : Iv) : Iv × Int := if ivE [a, b] ≠ 0 then errI (ivE [a, b]) else if b.1 ≤ 0 ∧ 0 ≤ b.2 then errI 9 else if b.2 < 0 then divPos (-a.2, -a.1) (-b.2, -b.1) else divPos a b
def sclF (a : Iv) (num den : Int) : Iv × Int := if ivE [a] ≠ 0 then errI (ivE [a]) else if den < 1 ∨ 4611686018427387904 < den ∨ num < -4611686018427387904 ∨ 4611686018427387904 < num then errI 2 else spanI den (a.1 * num) [a.2 * num]
def piF (a : Iv) : Iv × Int := if ivE [a] ≠ 0 then errI (ivE [a]) else spanI 1000000000000000000 (a.1 * 3141592653589793238) [a.1 * 3141592653589793239, a.2 * 3141592653589793238, a.2 * 3141592653589793239]
def hullF (a b : Iv) : Iv × Int := if ivE [a, b] ≠ 0 then errI (ivE [a, b]) else ((min a.1 b.1, max a.2 b.2), 0)
def meetF (a b : Iv) : Iv × Int := if ivE [a, b] ≠ 0 then errI (ivE [a, b]) else if min a.2 b.2 < max a.1 b.1 then errI 4 else ((max a.1 b.1, min a.2 b.2), 0)
def ordF (a b : Iv) : Int × Int := if ivE [a, b] ≠ 0 then (0, ivE [a, b]) else if a.2 < b.1 then (-1, 0) else if b.2 < a.1 then (1, 0) else (0, 0)
def powF (a : Iv) (k : Int) : Iv × Int := if ivE [a] ≠ 0 then errI (ivE [a]) else if k < 0 ∨ 62 < k then errI 2 else
  if 4611686018427387904 < a.1.natAbs ^ k.toNat ∨ 4611686018427387904 < a.2.natAbs ^ k.toNat then errI 7 else
  if k.toNat % 2 = 0 ∧ 0 < k then ((if a.1 ≤ 0 ∧ 0 ≤ a.2 then 0 else min (a.1 ^ k.toNat) (a.2 ^ k.toNat), max (a.1 ^ k.toNat) (a.2 ^ k.toNat)), 0) else ((a.1 ^ k.toNat, a.2 ^ k.toNat), 0)
/-- The greatest number whose power is not above n. -/
def rootN (n k : Nat) : Nat := leastF (fun r => decide (n < (r + 1) ^ k)) (n + 1) 0
def rootUp (n k : Nat) : Nat := if rootN n k ^ k < n then rootN n k + 1 else rootN n k
def rootF (a : Iv) (k : Int) : Iv × Int := if ivE [a] ≠ 0 then errI (ivE [a]) else if k < 1 ∨ 62 < k then errI 2 else if a.1 < 0 then errI 9 else (((rootN a.1.toNat k.toNat : Int), (rootUp a.2.toNat k.toNat : Int)), 0)
def discN (up : Bool) (n : Int) : Int × Bool := rndF up (n * n * (if up then 3141592653589793239 else 3141592653589793238)) 4000000000000000000
def discF (a : Iv) : Iv × Int := if ivE [a] ≠ 0 then errI (ivE [a]) else if a.1 < 0 then errI 9 else spanR (discN false a.1) (discN true a.2)

theorem rootN_eq {n k r : Nat} (hk : 0 < k) (h1 : r ^ k ≤ n) (h2 : n < (r + 1) ^ k) : rootN n k = r := by
  unfold rootN
  have hr : r ≤ n := Nat.le_trans (by
    cases r with
    | zero => exact Nat.zero_le _
    | succ r => exact Nat.le_trans (Nat.le_of_eq (Nat.pow_one _).symm) (Nat.pow_le_pow_right (by omega) hk)) h1
  refine leastF_eq (fun j hj => ?_) (by omega) fun _ => decide_eq_true h2
  refine decide_eq_false ?_
  have := Nat.pow_le_pow_left (show j + 1 ≤ r by omega) k
  omega
theorem rootN_spec {n k : Nat} (hk : 0 < k) : rootN n k ^ k ≤ n ∧ n < (rootN n k + 1) ^ k := by
  have ex : ∀ m : Nat, ∃ r, r ^ k ≤ m ∧ m < (r + 1) ^ k := by
    intro m
    induction m with
    | zero => exact ⟨0, by rw [Nat.zero_pow hk]; omega, by simp⟩
    | succ m ih =>
      obtain ⟨r, h1, h2⟩ := ih
      rcases Nat.lt_or_ge (m + 1) ((r + 1) ^ k) with h | h
      · exact ⟨r, by omega, h⟩
      · refine ⟨r + 1, h, ?_⟩
        have : (r + 1) ^ k < (r + 1 + 1) ^ k := Nat.pow_lt_pow_left (by omega) (by omega)
        omega
  obtain ⟨r, h1, h2⟩ := ex n
  rw [rootN_eq hk h1 h2]
  exact ⟨h1, h2⟩
end Go.Proofs.Ytdognchniaojoaa
