/- Intervals: narrower ones, and roots of powers, in plain Lean. -/
import Derived.Test.YtdognchniaojoaaP1
set_option linter.all false
namespace Go.Proofs.Ytdognchniaojoaa
open Go Go.Vx

/-- d is within c. -/
def inI (d c : Iv) : Prop := c.1 ≤ d.1 ∧ d.1 ≤ c.2 ∧ c.1 ≤ d.2 ∧ d.2 ≤ c.2

theorem mul_narrow {a b : Iv} {x y : Int} (h1 : a.1 ≤ x) (h2 : x ≤ a.2) (h3 : b.1 ≤ y) (h4 : y ≤ b.2) : inI (mulP (x, a.2) (b.1, y)) (mulP a b) := by
  have m1 := mul_box h1 h2 (Int.le_refl b.1) (Int.le_trans h3 h4)
  have m2 := mul_box h1 h2 h3 h4
  have m3 := mul_box (Int.le_trans h1 h2) (Int.le_refl a.2) (Int.le_refl b.1) (Int.le_trans h3 h4)
  have m4 := mul_box (Int.le_trans h1 h2) (Int.le_refl a.2) h3 h4
  unfold inI mulP
  dsimp only
  generalize lo4 (a.1 * b.1) (a.1 * b.2) (a.2 * b.1) (a.2 * b.2) = L at *
  generalize hi4 (a.1 * b.1) (a.1 * b.2) (a.2 * b.1) (a.2 * b.2) = U at *
  unfold lo4 hi4
  omega

theorem sqm {u v : Int} (h : -v ≤ u ∧ u ≤ v) : u * u ≤ v * v := (mul_bnd h h).2
theorem sq0 (u : Int) : 0 ≤ u * u := by
  rcases Int.le_total 0 u with h | h
  · exact Int.mul_nonneg h h
  · have := Int.mul_nonneg (show 0 ≤ -u by omega) (show 0 ≤ -u by omega)
    rwa [Int.neg_mul_neg] at this
def sqP (a : Iv) : Iv := (if a.1 ≤ 0 ∧ 0 ≤ a.2 then 0 else min (a.1 * a.1) (a.2 * a.2), max (a.1 * a.1) (a.2 * a.2))
theorem sq_narrow {a : Iv} {x : Int} (h1 : a.1 ≤ x) (h2 : x ≤ a.2) : inI (sqP (x, a.2)) (sqP a) := by
  have z1 := sq0 a.1
  have z2 := sq0 a.2
  have z3 := sq0 x
  have u1 : 0 ≤ x → x * x ≤ a.2 * a.2 := fun h => sqm (by omega)
  have u2 : x < 0 → x * x ≤ a.1 * a.1 := fun h => by
    have := sqm (u := x) (v := -a.1) (by omega)
    rwa [Int.neg_mul_neg] at this
  have u3 : 0 < a.1 → a.1 * a.1 ≤ x * x := fun h => sqm (by omega)
  have u4 : a.2 < 0 → a.2 * a.2 ≤ x * x := fun h => by
    have := sqm (u := a.2) (v := -x) (by omega)
    rwa [Int.neg_mul_neg] at this
  unfold inI sqP
  dsimp only
  generalize a.1 * a.1 = A at *
  generalize a.2 * a.2 = B at *
  generalize x * x = X at *
  split <;> split <;> omega

theorem pow0 {a : Iv} (ha : iv31 a) : powF a 0 = ((1, 1), 0) := by
  obtain ⟨_, _, _⟩ := ha
  rw [powF, if_neg (by rw [ivE_ok1 (by omega) (by omega) (by omega)]; decide), if_neg (by omega)]
  simp
theorem pow1 {a : Iv} (ha : iv31 a) : powF a 1 = (a, 0) := by
  obtain ⟨_, _, _⟩ := ha
  rw [powF, if_neg (by rw [ivE_ok1 (by omega) (by omega) (by omega)]; decide), if_neg (by omega)]
  have e : (1 : Int).toNat = 1 := rfl
  rw [e, Nat.pow_one, Nat.pow_one, if_neg (by omega), if_neg (by omega), Int.pow_succ, Int.pow_succ, Int.pow_zero, Int.pow_zero, Int.one_mul, Int.one_mul]
theorem pow2 {a : Iv} (ha : iv31 a) : powF a 2 = (sqP a, 0) := by
  obtain ⟨_, _, _⟩ := ha
  rw [powF, if_neg (by rw [ivE_ok1 (by omega) (by omega) (by omega)]; decide), if_neg (by omega)]
  have e : (2 : Int).toNat = 2 := rfl
  have p : ∀ n : Nat, n ≤ 2147483648 → n ^ 2 ≤ 4611686018427387904 := fun n hn => by
    have := Nat.pow_le_pow_left hn 2
    exact this
  have p1 := p a.1.natAbs (by omega)
  have p2 := p a.2.natAbs (by omega)
  have q : ∀ z : Int, z ^ 2 = z * z := fun z => by rw [Int.pow_succ, Int.pow_succ, Int.pow_zero, Int.one_mul]
  rw [e, if_neg (by omega), if_pos (by omega), q, q]
  rfl

def piP (a : Iv) : Iv := (lo4 (a.1 * 3141592653589793238) (a.1 * 3141592653589793239) (a.2 * 3141592653589793238) (a.2 * 3141592653589793239) / 1000000000000000000, -((-(hi4 (a.1 * 3141592653589793238) (a.1 * 3141592653589793239) (a.2 * 3141592653589793238) (a.2 * 3141592653589793239))) / 1000000000000000000))
theorem pi43 {a : Iv} (ha : -8796093022208 ≤ a.1 ∧ a.1 ≤ a.2 ∧ a.2 ≤ 8796093022208) : piF a = (piP a, 0) := by
  rw [piF, if_neg (by rw [ivE_ok1 (by omega) (by omega) (by omega)]; decide), spanI, lowI3, highI3, rndF, rndF]
  have e1 : ∀ x : Int, rndT false x 1000000000000000000 = x / 1000000000000000000 := fun _ => rfl
  have e2 : ∀ x : Int, rndT true x 1000000000000000000 = -((-x) / 1000000000000000000) := fun _ => rfl
  have l : -28000000000000000000000000000000 ≤ lo4 (a.1 * 3141592653589793238) (a.1 * 3141592653589793239) (a.2 * 3141592653589793238) (a.2 * 3141592653589793239) ∧ lo4 (a.1 * 3141592653589793238) (a.1 * 3141592653589793239) (a.2 * 3141592653589793238) (a.2 * 3141592653589793239) ≤ 28000000000000000000000000000000 := by unfold lo4; omega
  have u : -28000000000000000000000000000000 ≤ hi4 (a.1 * 3141592653589793238) (a.1 * 3141592653589793239) (a.2 * 3141592653589793238) (a.2 * 3141592653589793239) ∧ hi4 (a.1 * 3141592653589793238) (a.1 * 3141592653589793239) (a.2 * 3141592653589793238) (a.2 * 3141592653589793239) ≤ 28000000000000000000000000000000 := by unfold hi4; omega
  rw [e1, e2, piP]
  generalize lo4 (a.1 * 3141592653589793238) (a.1 * 3141592653589793239) (a.2 * 3141592653589793238) (a.2 * 3141592653589793239) = L at *
  generalize hi4 (a.1 * 3141592653589793238) (a.1 * 3141592653589793239) (a.2 * 3141592653589793238) (a.2 * 3141592653589793239) = U at *
  rw [rndB_in (by omega), rndB_in (by omega), spanR_in]
theorem pi_narrow {a : Iv} {x : Int} (h1 : a.1 ≤ x) (h2 : x ≤ a.2) : inI (piP (x, a.2)) (piP a) := by
  unfold inI piP
  dsimp only
  have l : lo4 (a.1 * 3141592653589793238) (a.1 * 3141592653589793239) (a.2 * 3141592653589793238) (a.2 * 3141592653589793239) ≤ lo4 (x * 3141592653589793238) (x * 3141592653589793239) (a.2 * 3141592653589793238) (a.2 * 3141592653589793239) := by unfold lo4; omega
  have u : hi4 (x * 3141592653589793238) (x * 3141592653589793239) (a.2 * 3141592653589793238) (a.2 * 3141592653589793239) ≤ hi4 (a.1 * 3141592653589793238) (a.1 * 3141592653589793239) (a.2 * 3141592653589793238) (a.2 * 3141592653589793239) := by unfold hi4; omega
  have m : lo4 (x * 3141592653589793238) (x * 3141592653589793239) (a.2 * 3141592653589793238) (a.2 * 3141592653589793239) ≤ hi4 (x * 3141592653589793238) (x * 3141592653589793239) (a.2 * 3141592653589793238) (a.2 * 3141592653589793239) := by unfold lo4 hi4; omega
  generalize lo4 (a.1 * 3141592653589793238) (a.1 * 3141592653589793239) (a.2 * 3141592653589793238) (a.2 * 3141592653589793239) = L at *
  generalize hi4 (a.1 * 3141592653589793238) (a.1 * 3141592653589793239) (a.2 * 3141592653589793238) (a.2 * 3141592653589793239) = U at *
  generalize lo4 (x * 3141592653589793238) (x * 3141592653589793239) (a.2 * 3141592653589793238) (a.2 * 3141592653589793239) = L' at *
  generalize hi4 (x * 3141592653589793238) (x * 3141592653589793239) (a.2 * 3141592653589793238) (a.2 * 3141592653589793239) = U' at *
  omega

theorem narrow31 {a b : Iv} {x y K : Int} (ha : iv31 a) (hb : iv31 b) (h1 : a.1 ≤ x) (h2 : x ≤ a.2) (h3 : b.1 ≤ y) (h4 : y ≤ b.2) (hK : 0 ≤ K ∧ K < 3) :
    ∃ c d g i l n : Iv, mulF a b = (c, 0) ∧ mulF (x, a.2) (b.1, y) = (d, 0) ∧ powF a K = (g, 0) ∧ powF (x, a.2) K = (i, 0) ∧ piF a = (l, 0) ∧ piF (x, a.2) = (n, 0) ∧ inI d c ∧ inI i g ∧ inI n l := by
  have hs : iv31 (x, a.2) := ⟨Int.le_trans ha.1 h1, h2, ha.2.2⟩
  have ht : iv31 (b.1, y) := ⟨hb.1, h3, Int.le_trans h4 hb.2.2⟩
  have ha' := ha
  have hs' := hs
  obtain ⟨a1, a2, a3⟩ := ha'
  obtain ⟨s1, s2, s3⟩ := hs'
  have hp : ∃ g i : Iv, powF a K = (g, 0) ∧ powF (x, a.2) K = (i, 0) ∧ inI i g := by
    have : K = 0 ∨ K = 1 ∨ K = 2 := by omega
    rcases this with rfl | rfl | rfl
    · exact ⟨_, _, pow0 ha, pow0 hs, by unfold inI; simp⟩
    · exact ⟨_, _, pow1 ha, pow1 hs, by unfold inI; dsimp only; omega⟩
    · exact ⟨_, _, pow2 ha, pow2 hs, sq_narrow h1 h2⟩
  obtain ⟨g, i, e1, e2, e3⟩ := hp
  exact ⟨_, _, g, i, _, _, mul31 ⟨a1, a2, by omega⟩ hb, mul31 ⟨s1, s2, by omega⟩ ht, e1, e2, pi43 ⟨by omega, a2, by omega⟩, pi43 ⟨by omega, s2, by omega⟩, mul_narrow h1 h2 h3 h4, e3, pi_narrow h1 h2⟩

theorem back31 {a b : Iv} (ha : iv31 a) (hb : iv31 b) : ∃ s r : Iv, addF a b = (s, 0) ∧ subF s b = (r, 0) ∧ (r.1 ≤ a.1 ∧ a.1 ≤ r.2) ∧ (r.1 ≤ a.2 ∧ a.2 ≤ r.2) := by
  have e := add31 ha hb
  obtain ⟨_, _, _⟩ := ha
  obtain ⟨h1, h2, h3⟩ := id hb
  refine ⟨_, _, e, sub_in (a := (a.1 + b.1, a.2 + b.2)) ⟨by dsimp only; omega, by dsimp only; omega, by dsimp only; omega⟩ hb, ?_⟩
  dsimp only
  omega

theorem dn_mul {v y : Int} (hy : y ≠ 0) : (0 < y → dnF v y * y ≤ v) ∧ (y < 0 → v ≤ dnF v y * y) := by
  unfold dnF
  constructor
  · intro h
    rw [if_neg (by omega)]
    exact Int.ediv_mul_le v hy
  · intro h
    rw [if_pos h]
    have := Int.ediv_mul_le (-v) (show -y ≠ 0 by omega)
    rw [Int.mul_neg] at this
    omega
theorem again31 {a b : Iv} (ha : iv31 a) (hb : iv31 b) (h0 : ¬ (b.1 ≤ 0 ∧ 0 ≤ b.2)) : ∃ q r : Iv, quoF a b = (q, 0) ∧ mulF q b = (r, 0) ∧ (r.1 ≤ a.1 ∧ a.1 ≤ r.2) ∧ (r.1 ≤ a.2 ∧ a.2 ≤ r.2) := by
  obtain ⟨a1, a2, a3⟩ := id ha
  obtain ⟨b1, b2, b3⟩ := id hb
  have hq : ∀ v y : Int, a.1 ≤ v → v ≤ a.2 → b.1 ≤ y → y ≤ b.2 → (divP a b).1 ≤ dnF v y ∧ dnF v y ≤ -(dnF (-v) y) ∧ -(dnF (-v) y) ≤ (divP a b).2 := fun v y g1 g2 g3 g4 => divP_in b2 h0 g1 g2 g3 g4
  have B : ∀ v y : Int, a.1 ≤ v ∧ v ≤ a.2 → y ≠ 0 → -2147483648 ≤ dnF v y ∧ dnF v y ≤ 2147483648 := fun v y g1 g2 => dn_abs (by omega) g2
  have B' : ∀ v y : Int, a.1 ≤ v ∧ v ≤ a.2 → y ≠ 0 → -2147483648 ≤ -dnF (-v) y ∧ -dnF (-v) y ≤ 2147483648 := fun v y g1 g2 => by
    have := dn_abs (x := -v) (y := y) (M := 2147483648) (by omega) g2
    omega
  have q1 : -2147483648 ≤ (divP a b).1 := by
    rcases (divP_at (a := a) b2 h0).1 with e | e | e | e <;> rw [e]
    · exact (B _ _ (by omega) (by omega)).1
    · exact (B _ _ (by omega) (by omega)).1
    · exact (B _ _ (by omega) (by omega)).1
    · exact (B _ _ (by omega) (by omega)).1
  have q2 : (divP a b).2 ≤ 2147483648 := by
    rcases (divP_at (a := a) b2 h0).2 with e | e | e | e <;> rw [e]
    · exact (B' _ _ (by omega) (by omega)).2
    · exact (B' _ _ (by omega) (by omega)).2
    · exact (B' _ _ (by omega) (by omega)).2
    · exact (B' _ _ (by omega) (by omega)).2
  have c : ∀ v, a.1 ≤ v → v ≤ a.2 → (mulP (divP a b) b).1 ≤ v ∧ v ≤ (mulP (divP a b) b).2 := fun v g1 g2 => by
    have h := hq v b.1 g1 g2 (Int.le_refl _) b2
    have m1 := mul_box (a1 := (divP a b).1) (a2 := (divP a b).2) h.1 (Int.le_trans h.2.1 h.2.2) (Int.le_refl b.1) b2
    have m2 := mul_box (a1 := (divP a b).1) (a2 := (divP a b).2) (Int.le_trans h.1 h.2.1) h.2.2 (Int.le_refl b.1) b2
    have d1 := dn_mul (v := v) (y := b.1) (by omega)
    have d2 := dn_mul (v := -v) (y := b.1) (by omega)
    rw [Int.neg_mul] at m2
    unfold mulP
    dsimp only
    generalize lo4 ((divP a b).1 * b.1) ((divP a b).1 * b.2) ((divP a b).2 * b.1) ((divP a b).2 * b.2) = L at *
    generalize hi4 ((divP a b).1 * b.1) ((divP a b).1 * b.2) ((divP a b).2 * b.1) ((divP a b).2 * b.2) = U at *
    generalize dnF v b.1 * b.1 = F at *
    generalize dnF (-v) b.1 * b.1 = G at *
    rcases Int.lt_or_lt_of_ne (show b.1 ≠ 0 by omega) with hb | hb
    · have := d1.2 hb; have := d2.2 hb; omega
    · have := d1.1 hb; have := d2.1 hb; omega
  have hm := hq a.1 b.1 (Int.le_refl _) a2 (Int.le_refl _) b2
  exact ⟨_, _, quo31 ha hb h0, mul31 ⟨q1, by omega, q2⟩ hb, c _ (Int.le_refl _) a2, c _ a2 (Int.le_refl _)⟩

/-! ### Roots of powers, and discs -/

theorem pow_err {a : Iv} {k : Int} (ha : iv31 a) (hk : 1 ≤ k ∧ k ≤ 62) : (powF a k).2 = 0 ∨ ((powF a k).2 = 7 ∧ 3 ≤ k) := by
  rcases Int.lt_or_le k 3 with h | h
  · left
    have : k = 1 ∨ k = 2 := by omega
    rcases this with rfl | rfl
    · rw [pow1 ha]
    · rw [pow2 ha]
  · obtain ⟨_, _, _⟩ := ha
    rw [powF, if_neg (by rw [ivE_ok1 (by omega) (by omega) (by omega)]; decide), if_neg (by omega)]
    split
    · exact Or.inr ⟨rfl, h⟩
    · left; split <;> rfl
theorem root_pow {a : Iv} {k : Int} (ha : iv31 a) (h0 : 0 ≤ a.1) (hk : 1 ≤ k ∧ k ≤ 62) (h : (powF a k).2 = 0) : rootF (powF a k).1 k = (a, 0) := by
  obtain ⟨_, a2, _⟩ := ha
  obtain ⟨x, y⟩ := a
  dsimp only at *
  obtain ⟨m, rfl⟩ := Int.eq_ofNat_of_zero_le h0
  obtain ⟨n, rfl⟩ := Int.eq_ofNat_of_zero_le (show 0 ≤ y by omega)
  obtain ⟨e, rfl⟩ := Int.eq_ofNat_of_zero_le (show 0 ≤ k by omega)
  have hmn : m ^ e ≤ n ^ e := Nat.pow_le_pow_left (by omega) e
  have cm : ((m : Int)) ^ e = ((m ^ e : Nat) : Int) := (Int.natCast_pow m e).symm
  have cn : ((n : Int)) ^ e = ((n ^ e : Nat) : Int) := (Int.natCast_pow n e).symm
  have he : powF ((m : Int), (n : Int)) (e : Int) = ((((m ^ e : Nat) : Int), ((n ^ e : Nat) : Int)), 0) ∧ n ^ e ≤ 4611686018427387904 := by
    rw [powF, if_neg (by rw [ivE_ok1 (by dsimp only; omega) (by dsimp only; omega) (by dsimp only; omega)]; decide), if_neg (by omega)] at h ⊢
    dsimp only [Int.natAbs_natCast, Int.toNat_natCast] at h ⊢
    simp only [Int.natAbs_natCast, Int.toNat_natCast, cm, cn] at h ⊢
    split at h
    · cases h
    · rename_i hb
      rw [if_neg hb]
      refine ⟨?_, by omega⟩
      split
      · rename_i hev
        split
        · rename_i hz
          have : m = 0 := by omega
          subst this
          rw [Nat.zero_pow (by omega)] at hmn ⊢
          rw [show max ((0 : Nat) : Int) ((n ^ e : Nat) : Int) = ((n ^ e : Nat) : Int) by omega]; rfl
        · rw [show min ((m ^ e : Nat) : Int) ((n ^ e : Nat) : Int) = ((m ^ e : Nat) : Int) by omega, show max ((m ^ e : Nat) : Int) ((n ^ e : Nat) : Int) = ((n ^ e : Nat) : Int) by omega]
      · rfl
  obtain ⟨he, hb⟩ := he
  rw [he]
  have r : ∀ j : Nat, rootN (j ^ e) e = j := fun j => rootN_eq (by omega) (Nat.le_refl _) (Nat.pow_lt_pow_left (by omega) (by omega))
  rw [rootF, if_neg (by rw [ivE_ok1 (by dsimp only; omega) (by dsimp only; omega) (by dsimp only; omega)]; decide), if_neg (by omega), if_neg (by dsimp only; omega)]
  dsimp only
  rw [Int.toNat_natCast, Int.toNat_natCast, Int.toNat_natCast, rootUp, r, r, if_neg (by omega)]

theorem disc_law {l h : Int} (h1 : 0 ≤ l) (h2 : l ≤ h) (h3 : h ≤ 2000000) :
    ∃ d q w f : Iv, discF (l, h) = (d, 0) ∧ mulF (l, h) (l, h) = (q, 0) ∧ piF q = (w, 0) ∧ sclF d 4 1 = (f, 0) ∧ (f.1 ≤ w.1 ∧ w.1 < f.1 + 4 ∧ w.2 - 4 ≤ f.2 ∧ f.2 < w.2 + 4) ∧ (-1000000000000000 ≤ f.1 ∧ f.1 ≤ 1000000000000000) ∧ (-1000000000000000 ≤ w.2 ∧ w.2 ≤ 1000000000000000) := by
  have k1 : l * l ≤ l * h := Int.mul_le_mul_of_nonneg_left h2 h1
  have k2 : l * h ≤ h * h := Int.mul_le_mul_of_nonneg_right h2 (by omega)
  have k3 := sq0 l
  have k4 : h * h ≤ 2000000 * 2000000 := sqm (by omega)
  have k5 : h * l = l * h := Int.mul_comm _ _
  have em : mulF (l, h) (l, h) = ((l * l, h * h), 0) := by
    rw [mul31 (a := (l, h)) ⟨by dsimp only; omega, h2, by dsimp only; omega⟩ ⟨by dsimp only; omega, h2, by dsimp only; omega⟩, mulP]
    dsimp only
    rw [k5]
    generalize l * l = L at *
    generalize h * h = U at *
    generalize l * h = M at *
    simp only [lo4, hi4, Prod.mk.injEq, and_true]
    omega
  have ed : discF (l, h) = spanR (rndB (l * l * 3141592653589793238 / 4000000000000000000)) (rndB (-((-(h * h * 3141592653589793239)) / 4000000000000000000))) := by
    rw [discF, if_neg (by rw [ivE_ok1 (by dsimp only; omega) (by dsimp only; omega) h2]; decide), if_neg (by dsimp only; omega)]
    rfl
  have ew := pi43 (a := (l * l, h * h)) (by dsimp only; omega)
  have ep : piP (l * l, h * h) = (l * l * 3141592653589793238 / 1000000000000000000, -((-(h * h * 3141592653589793239)) / 1000000000000000000)) := by
    unfold piP
    dsimp only
    generalize l * l = L at *
    generalize h * h = U at *
    rw [show lo4 (L * 3141592653589793238) (L * 3141592653589793239) (U * 3141592653589793238) (U * 3141592653589793239) = L * 3141592653589793238 by unfold lo4; omega, show hi4 (L * 3141592653589793238) (L * 3141592653589793239) (U * 3141592653589793238) (U * 3141592653589793239) = U * 3141592653589793239 by unfold hi4; omega]
  rw [ep] at ew
  rw [em]
  generalize l * l = L at *
  generalize h * h = U at *
  rw [rndB_in (by omega), rndB_in (by omega), spanR_in] at ed
  have es : ∀ d1 d2 : Int, 0 ≤ d1 → d1 ≤ d2 → d2 ≤ 100000000000000 → sclF (d1, d2) 4 1 = ((d1 * 4, d2 * 4), 0) := fun d1 d2 g1 g2 g3 => by
    rw [sclF, if_neg (by rw [ivE_ok1 (by dsimp only; omega) (by dsimp only; omega) g2]; decide), if_neg (by omega), spanI, rndF, rndF, rnd1, rnd1]
    have e1 : lowI (d1 * 4) [d2 * 4] = d1 * 4 := by simp only [lowI, List.foldl]; split <;> omega
    have e2 : highI (d1 * 4) [d2 * 4] = d2 * 4 := by simp only [highI, List.foldl]; split <;> omega
    dsimp only
    rw [e1, e2, rndB_in (by omega), rndB_in (by omega), spanR_in]
  refine ⟨_, _, _, _, ed, rfl, ew, es _ _ (by omega) (by omega) (by omega), ?_, ?_, ?_⟩ <;> dsimp only <;> omega
end Go.Proofs.Ytdognchniaojoaa
