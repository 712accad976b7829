/- Intervals: the laws without a reference, in plain Lean. -/
import Derived.Test.YtdognchniaojoaaSP0
set_option linter.all false
namespace Go.Proofs.Ytdognchniaojoaa
open Go Go.Vx

/-! ### Products -/

theorem mul_btw {a1 a2 x : Int} (y : Int) (h1 : a1 ≤ x) (h2 : x ≤ a2) : min (a1 * y) (a2 * y) ≤ x * y ∧ x * y ≤ max (a1 * y) (a2 * y) := by
  rcases Int.le_total 0 y with hy | hy
  · have := Int.mul_le_mul_of_nonneg_right h1 hy
    have := Int.mul_le_mul_of_nonneg_right h2 hy
    omega
  · have := Int.mul_le_mul_of_nonpos_right h1 hy
    have := Int.mul_le_mul_of_nonpos_right h2 hy
    omega
def lo4 (a b c d : Int) : Int := min (min a b) (min c d)
def hi4 (a b c d : Int) : Int := max (max a b) (max c d)
theorem mul_box {a1 a2 b1 b2 x y : Int} (h1 : a1 ≤ x) (h2 : x ≤ a2) (h3 : b1 ≤ y) (h4 : y ≤ b2) :
    lo4 (a1 * b1) (a1 * b2) (a2 * b1) (a2 * b2) ≤ x * y ∧ x * y ≤ hi4 (a1 * b1) (a1 * b2) (a2 * b1) (a2 * b2) := by
  have e1 := mul_btw y h1 h2
  have e2 := mul_btw a1 h3 h4
  have e3 := mul_btw a2 h3 h4
  rw [Int.mul_comm b1 a1, Int.mul_comm b2 a1, Int.mul_comm y a1] at e2
  rw [Int.mul_comm b1 a2, Int.mul_comm b2 a2, Int.mul_comm y a2] at e3
  unfold lo4 hi4
  omega
theorem mul_bnd {a b M N : Int} (h1 : -M ≤ a ∧ a ≤ M) (h2 : -N ≤ b ∧ b ≤ N) : -(M * N) ≤ a * b ∧ a * b ≤ M * N := by
  have e := mul_box h1.1 h1.2 h2.1 h2.2
  simp only [lo4, hi4, Int.neg_mul, Int.mul_neg, Int.neg_neg] at e
  have : 0 ≤ M * N := Int.mul_nonneg (by omega) (by omega)
  omega

theorem lowI3 (a b c d : Int) : lowI a [b, c, d] = lo4 a b c d := by
  simp only [lowI, List.foldl, lo4]; split <;> split <;> split <;> omega
theorem highI3 (a b c d : Int) : highI a [b, c, d] = hi4 a b c d := by
  simp only [highI, List.foldl, hi4]; split <;> split <;> split <;> omega
theorem rndB_in {t : Int} (h : -4611686018427387904 ≤ t ∧ t ≤ 4611686018427387904) : rndB t = (t, true) := by rw [rndB, if_pos h]
theorem spanR_in {s t : Int} : spanR (s, true) (t, true) = ((s, t), 0) := rfl
theorem ivE_ok1 {a : Iv} (h1 : -4611686018427387904 ≤ a.1) (h2 : a.2 ≤ 4611686018427387904) (h : a.1 ≤ a.2) : ivE [a] = 0 := by
  unfold ivE
  have e1 := numOk_iff.2 (show -4611686018427387904 ≤ a.1 ∧ a.1 ≤ 4611686018427387904 by omega)
  have e2 := numOk_iff.2 (show -4611686018427387904 ≤ a.2 ∧ a.2 ≤ 4611686018427387904 by omega)
  simp [e1, e2, h]
theorem ivE_ok2 {a b : Iv} (h1 : -4611686018427387904 ≤ a.1) (h2 : a.2 ≤ 4611686018427387904) (h : a.1 ≤ a.2) (h3 : -4611686018427387904 ≤ b.1) (h4 : b.2 ≤ 4611686018427387904) (h' : b.1 ≤ b.2) : ivE [a, b] = 0 := by
  unfold ivE
  have e1 := numOk_iff.2 (show -4611686018427387904 ≤ a.1 ∧ a.1 ≤ 4611686018427387904 by omega)
  have e2 := numOk_iff.2 (show -4611686018427387904 ≤ a.2 ∧ a.2 ≤ 4611686018427387904 by omega)
  have e3 := numOk_iff.2 (show -4611686018427387904 ≤ b.1 ∧ b.1 ≤ 4611686018427387904 by omega)
  have e4 := numOk_iff.2 (show -4611686018427387904 ≤ b.2 ∧ b.2 ≤ 4611686018427387904 by omega)
  simp [e1, e2, e3, e4, h, h']

/-- An interval with bounds of 31 bits. -/
def iv31 (a : Iv) : Prop := -2147483648 ≤ a.1 ∧ a.1 ≤ a.2 ∧ a.2 ≤ 2147483647
theorem ivE31 {a b : Iv} (ha : iv31 a) (hb : iv31 b) : ivE [a, b] = 0 := by
  obtain ⟨_, _, _⟩ := ha; obtain ⟨_, _, _⟩ := hb
  exact ivE_ok2 (by omega) (by omega) (by omega) (by omega) (by omega) (by omega)

theorem add31 {a b : Iv} (ha : iv31 a) (hb : iv31 b) : addF a b = ((a.1 + b.1, a.2 + b.2), 0) := by
  have e := ivE31 ha hb
  obtain ⟨_, _, _⟩ := ha; obtain ⟨_, _, _⟩ := hb
  rw [addF, if_neg (by rw [e]; decide), fitF, if_pos]
  rw [numOk_iff.2 (by omega), numOk_iff.2 (by omega)]; rfl
theorem sub_in {a b : Iv} (ha : -4294967296 ≤ a.1 ∧ a.1 ≤ a.2 ∧ a.2 ≤ 4294967296) (hb : iv31 b) : subF a b = ((a.1 - b.2, a.2 - b.1), 0) := by
  obtain ⟨_, _, _⟩ := ha; obtain ⟨_, _, _⟩ := hb
  have e := ivE_ok2 (a := a) (b := b) (by omega) (by omega) (by omega) (by omega) (by omega) (by omega)
  have e' := ivE_ok2 (a := a) (b := (-b.2, -b.1)) (by omega) (by omega) (by omega) (by dsimp only; omega) (by dsimp only; omega) (by dsimp only; omega)
  rw [subF, if_neg (by rw [e]; decide), addF, if_neg (by rw [e']; decide), fitF, if_pos]
  · simp only [Int.sub_eq_add_neg]
  · rw [numOk_iff.2 (by dsimp only; omega), numOk_iff.2 (by dsimp only; omega)]; rfl
theorem sub31 {a b : Iv} (ha : iv31 a) (hb : iv31 b) : subF a b = ((a.1 - b.2, a.2 - b.1), 0) := by
  obtain ⟨_, _, _⟩ := ha
  exact sub_in ⟨by omega, by omega, by omega⟩ hb
def mulP (a b : Iv) : Iv := (lo4 (a.1 * b.1) (a.1 * b.2) (a.2 * b.1) (a.2 * b.2), hi4 (a.1 * b.1) (a.1 * b.2) (a.2 * b.1) (a.2 * b.2))
theorem rnd1 (up : Bool) (x : Int) : rndT up x 1 = x := by
  cases up <;> simp [rndT]
theorem mul31 {a b : Iv} (ha : -2147483648 ≤ a.1 ∧ a.1 ≤ a.2 ∧ a.2 ≤ 2147483648) (hb : iv31 b) : mulF a b = (mulP a b, 0) := by
  obtain ⟨_, _, _⟩ := ha; obtain ⟨_, _, _⟩ := hb
  have e := ivE_ok2 (a := a) (b := b) (by omega) (by omega) (by omega) (by omega) (by omega) (by omega)
  have m : ∀ x y : Int, -2147483648 ≤ x ∧ x ≤ 2147483648 → -2147483648 ≤ y ∧ y ≤ 2147483648 → -4611686018427387904 ≤ x * y ∧ x * y ≤ 4611686018427387904 := fun x y hx hy => mul_bnd hx hy
  have m1 := m a.1 b.1 (by omega) (by omega)
  have m2 := m a.1 b.2 (by omega) (by omega)
  have m3 := m a.2 b.1 (by omega) (by omega)
  have m4 := m a.2 b.2 (by omega) (by omega)
  rw [mulF, if_neg (by rw [e]; decide), spanI, lowI3, highI3, rndF, rndF, rnd1, rnd1]
  have l : -4611686018427387904 ≤ lo4 (a.1 * b.1) (a.1 * b.2) (a.2 * b.1) (a.2 * b.2) ∧ lo4 (a.1 * b.1) (a.1 * b.2) (a.2 * b.1) (a.2 * b.2) ≤ 4611686018427387904 := by unfold lo4; omega
  have u : -4611686018427387904 ≤ hi4 (a.1 * b.1) (a.1 * b.2) (a.2 * b.1) (a.2 * b.2) ∧ hi4 (a.1 * b.1) (a.1 * b.2) (a.2 * b.1) (a.2 * b.2) ≤ 4611686018427387904 := by unfold hi4; omega
  rw [rndB_in l, rndB_in u, spanR_in]; rfl

/-! ### Quotients -/

theorem fl_mono {x y x' y' : Int} (hy : 0 < y) (hy' : 0 < y') (h : x * y' ≤ x' * y) : x / y ≤ x' / y' := by
  rw [Int.le_ediv_iff_mul_le hy']
  have e := Int.ediv_mul_le x (show y ≠ 0 by omega)
  have e2 := Int.mul_le_mul_of_nonneg_right e (show 0 ≤ y' by omega)
  refine Int.le_of_mul_le_mul_right ?_ hy
  have e3 : x / y * y * y' = x / y * y' * y := by rw [Int.mul_assoc, Int.mul_comm y, ← Int.mul_assoc]
  omega
theorem fl_le_ce {x y : Int} (hy : 0 < y) : x / y ≤ -((-x) / y) := by
  have e := Int.ediv_mul_le x (show y ≠ 0 by omega)
  have e2 := Int.ediv_mul_le (-x) (show y ≠ 0 by omega)
  have e3 : (x / y + (-x) / y) * y ≤ 0 * y := by rw [Int.add_mul]; omega
  have := Int.le_of_mul_le_mul_right e3 hy
  omega
def lowQ (a b : Iv) : Int := a.1 / (if a.1 < 0 then b.1 else b.2)
def highQ (a b : Iv) : Int := -((-a.2) / (if a.2 < 0 then b.2 else b.1))
theorem lowQ_le {a b : Iv} {x y : Int} (hb : 0 < b.1) (h1 : a.1 ≤ x) (h3 : b.1 ≤ y) (h4 : y ≤ b.2) : lowQ a b ≤ x / y := by
  unfold lowQ
  split
  · rename_i h
    refine fl_mono hb (by omega) ?_
    have e1 := Int.mul_le_mul_of_nonpos_left (show a.1 ≤ 0 by omega) h3
    have e2 := Int.mul_le_mul_of_nonneg_right h1 (show 0 ≤ b.1 by omega)
    omega
  · rename_i h
    refine fl_mono (by omega) (by omega) ?_
    have e1 := Int.mul_le_mul_of_nonneg_left h4 (show 0 ≤ a.1 by omega)
    have e2 := Int.mul_le_mul_of_nonneg_right h1 (show 0 ≤ b.2 by omega)
    omega
theorem le_highQ {a b : Iv} {x y : Int} (hb : 0 < b.1) (h2 : x ≤ a.2) (h3 : b.1 ≤ y) (h4 : y ≤ b.2) : -((-x) / y) ≤ highQ a b := by
  unfold highQ
  have hx : -a.2 ≤ -x := by omega
  split
  · rename_i h
    refine Int.neg_le_neg (fl_mono (by omega) (by omega) ?_)
    have e1 := Int.mul_le_mul_of_nonneg_left h4 (show 0 ≤ -a.2 by omega)
    have e2 := Int.mul_le_mul_of_nonneg_right hx (show 0 ≤ b.2 by omega)
    omega
  · rename_i h
    refine Int.neg_le_neg (fl_mono (by omega) (by omega) ?_)
    have e1 := Int.mul_le_mul_of_nonpos_left (show -a.2 ≤ 0 by omega) h3
    have e2 := Int.mul_le_mul_of_nonneg_right hx (show 0 ≤ b.1 by omega)
    omega
theorem lowQ_at {a b : Iv} : lowQ a b = a.1 / b.1 ∨ lowQ a b = a.1 / b.2 := by
  unfold lowQ; split
  · exact Or.inl rfl
  · exact Or.inr rfl
theorem highQ_at {a b : Iv} : highQ a b = -((-a.2) / b.1) ∨ highQ a b = -((-a.2) / b.2) := by
  unfold highQ; split
  · exact Or.inr rfl
  · exact Or.inl rfl
theorem quo_absM {x y M : Int} (hx : -M ≤ x ∧ x ≤ M) (hy : 0 < y) : -M ≤ x / y ∧ x / y ≤ M := by
  have h := Int.mul_le_mul_of_nonneg_left (show 1 ≤ y by omega) (show 0 ≤ M by omega)
  have e1 := fl_mono (x := -M) (y := 1) (x' := x) (y' := y) (by omega) hy (by rw [Int.neg_mul]; omega)
  have e2 := fl_mono (x := x) (y := y) (x' := M) (y' := 1) hy (by omega) (by omega)
  rw [Int.ediv_one] at e1 e2
  exact ⟨e1, e2⟩
theorem quo_abs {x y : Int} (hx : -2147483648 ≤ x ∧ x ≤ 2147483648) (hy : 0 < y) : -2147483648 ≤ x / y ∧ x / y ≤ 2147483648 := by
  have e1 := fl_mono (x := -2147483648) (y := 1) (x' := x) (y' := y) (by omega) hy (by omega)
  have e2 := fl_mono (x := x) (y := y) (x' := 2147483648) (y' := 1) hy (by omega) (by omega)
  rw [Int.ediv_one] at e1 e2
  exact ⟨e1, e2⟩
theorem div_pos {a b : Iv} (ha : -2147483648 ≤ a.1 ∧ a.1 ≤ a.2 ∧ a.2 ≤ 2147483648) (hb : 0 < b.1) (hb' : b.1 ≤ b.2) : divPos a b = ((lowQ a b, highQ a b), 0) := by
  have q1 : -2147483648 ≤ lowQ a b ∧ lowQ a b ≤ 2147483648 := by
    rcases lowQ_at (a := a) (b := b) with e | e <;> rw [e]
    · exact quo_abs (by omega) (by omega)
    · exact quo_abs (by omega) (by omega)
  have q2 : -2147483648 ≤ highQ a b ∧ highQ a b ≤ 2147483648 := by
    rcases highQ_at (a := a) (b := b) with e | e <;> rw [e]
    · have := quo_abs (x := -a.2) (y := b.1) (by omega) (by omega); omega
    · have := quo_abs (x := -a.2) (y := b.2) (by omega) (by omega); omega
  have e1 : rndF false a.1 (if a.1 < 0 then b.1 else b.2) = rndB (lowQ a b) := rfl
  have e2 : rndF true a.2 (if a.2 < 0 then b.2 else b.1) = rndB (highQ a b) := rfl
  rw [divPos, e1, e2, rndB_in (by omega), rndB_in (by omega), spanR_in]

/-- The quotient, rounded down. -/
def dnF (x y : Int) : Int := if y < 0 then (-x) / (-y) else x / y
def valF (x y w : Int) : Iv := if w = 0 then (x + y, x + y) else if w = 1 then (x - y, x - y) else if w = 2 then (x * y, x * y) else (dnF x y, -(dnF (-x) y))
/-- The least and the greatest of what the function has at the corners. -/
def corP (a b : Iv) (w : Int) : Iv := (lo4 (valF a.1 b.1 w).1 (valF a.2 b.1 w).1 (valF a.1 b.2 w).1 (valF a.2 b.2 w).1, hi4 (valF a.1 b.1 w).2 (valF a.2 b.1 w).2 (valF a.1 b.2 w).2 (valF a.2 b.2 w).2)
def neg (a : Iv) : Iv := (-a.2, -a.1)
def divP (a b : Iv) : Iv := if b.2 < 0 then (lowQ (neg a) (neg b), highQ (neg a) (neg b)) else (lowQ a b, highQ a b)
theorem quo31 {a b : Iv} (ha : iv31 a) (hb : iv31 b) (h0 : ¬ (b.1 ≤ 0 ∧ 0 ≤ b.2)) : quoF a b = (divP a b, 0) := by
  have e := ivE31 ha hb
  obtain ⟨_, _, _⟩ := ha; obtain ⟨_, _, _⟩ := hb
  rw [quoF, if_neg (by rw [e]; decide), if_neg h0, divP]
  split
  · exact div_pos (a := neg a) (b := neg b) (by dsimp only [neg]; omega) (by dsimp only [neg]; omega) (by dsimp only [neg]; omega)
  · exact div_pos (by omega) (by omega) (by omega)
theorem quo_down {a b : Iv} (ha : iv31 a) (hb : iv31 b) (h0 : b.1 ≤ 0 ∧ 0 ≤ b.2) : quoF a b = errI 9 := by
  rw [quoF, if_neg (by rw [ivE31 ha hb]; decide), if_pos h0]
theorem divP_in {a b : Iv} {x y : Int} (hb : b.1 ≤ b.2) (h0 : ¬ (b.1 ≤ 0 ∧ 0 ≤ b.2)) (h1 : a.1 ≤ x) (h2 : x ≤ a.2) (h3 : b.1 ≤ y) (h4 : y ≤ b.2) :
    (divP a b).1 ≤ dnF x y ∧ dnF x y ≤ -(dnF (-x) y) ∧ -(dnF (-x) y) ≤ (divP a b).2 := by
  unfold divP dnF
  split
  · rw [if_pos (by omega), if_pos (by omega)]
    exact ⟨lowQ_le (a := neg a) (b := neg b) (by dsimp only [neg]; omega) (by dsimp only [neg]; omega) (by dsimp only [neg]; omega) (by dsimp only [neg]; omega), fl_le_ce (by omega), le_highQ (a := neg a) (b := neg b) (by dsimp only [neg]; omega) (by dsimp only [neg]; omega) (by dsimp only [neg]; omega) (by dsimp only [neg]; omega)⟩
  · rw [if_neg (by omega), if_neg (by omega)]
    exact ⟨lowQ_le (by omega) h1 h3 h4, fl_le_ce (by omega), le_highQ (by omega) h2 h3 h4⟩
theorem divP_at {a b : Iv} (hb : b.1 ≤ b.2) (h0 : ¬ (b.1 ≤ 0 ∧ 0 ≤ b.2)) :
    ((divP a b).1 = dnF a.1 b.1 ∨ (divP a b).1 = dnF a.1 b.2 ∨ (divP a b).1 = dnF a.2 b.1 ∨ (divP a b).1 = dnF a.2 b.2) ∧
    ((divP a b).2 = -(dnF (-a.1) b.1) ∨ (divP a b).2 = -(dnF (-a.1) b.2) ∨ (divP a b).2 = -(dnF (-a.2) b.1) ∨ (divP a b).2 = -(dnF (-a.2) b.2)) := by
  unfold divP dnF
  by_cases hn : b.2 < 0
  · simp only [if_pos hn, if_pos (show b.1 < 0 by omega)]
    have e1 := lowQ_at (a := neg a) (b := neg b)
    have e2 := highQ_at (a := neg a) (b := neg b)
    dsimp only [neg] at e1 e2 ⊢
    constructor
    · rcases e1 with e | e <;> rw [e] <;> simp
    · rcases e2 with e | e <;> rw [e] <;> simp
  · simp only [if_neg hn, if_neg (show ¬ b.1 < 0 by omega)]
    constructor
    · rcases lowQ_at (a := a) (b := b) with e | e <;> rw [e] <;> simp
    · rcases highQ_at (a := a) (b := b) with e | e <;> rw [e] <;> simp

/-! ### What is computed of members is inside, and both bounds are values at corners -/

def opF (a b : Iv) (w : Int) : Iv × Int := if w = 0 then addF a b else if w = 1 then subF a b else if w = 2 then mulF a b else quoF a b
theorem inside31 {a b : Iv} {x y : Int} (ha : iv31 a) (hb : iv31 b) (h1 : a.1 ≤ x) (h2 : x ≤ a.2) (h3 : b.1 ≤ y) (h4 : y ≤ b.2) (w : Int) (hw : (w = 0 ∨ w = 1 ∨ w = 2) ∨ ¬ (b.1 ≤ 0 ∧ 0 ≤ b.2)) :
    (opF a b w).2 = 0 ∧ (opF a b w).1 = corP a b w ∧ (corP a b w).1 ≤ (valF x y w).1 ∧ (valF x y w).1 ≤ (corP a b w).2 ∧ (corP a b w).1 ≤ (valF x y w).2 ∧ (valF x y w).2 ≤ (corP a b w).2 := by
  by_cases w0 : w = 0
  · subst w0
    have e := add31 ha hb
    obtain ⟨_, _, _⟩ := ha; obtain ⟨_, _, _⟩ := hb
    simp only [opF, valF, corP, if_pos, e, lo4, hi4, Prod.mk.injEq, true_and]
    omega
  by_cases w1 : w = 1
  · subst w1
    have e := sub31 ha hb
    obtain ⟨_, _, _⟩ := ha; obtain ⟨_, _, _⟩ := hb
    simp only [opF, valF, corP, if_pos, if_neg w0, e, lo4, hi4, Prod.mk.injEq, true_and]
    omega
  by_cases w2 : w = 2
  · subst w2
    have e := mul31 (a := a) (b := b) ⟨ha.1, ha.2.1, by have := ha.2.2; omega⟩ hb
    have m := mul_box h1 h2 h3 h4
    simp only [opF, valF, corP, if_pos, if_neg w0, if_neg w1, e, mulP, Prod.mk.injEq, true_and]
    simp only [lo4, hi4] at m ⊢
    omega
  · have h0 : ¬ (b.1 ≤ 0 ∧ 0 ≤ b.2) := by omega
    have e := quo31 ha hb h0
    have i0 := divP_in (a := a) hb.2.1 h0 h1 h2 h3 h4
    have i1 := divP_in (a := a) (x := a.1) (y := b.1) hb.2.1 h0 (by omega) ha.2.1 (by omega) hb.2.1
    have i2 := divP_in (a := a) (x := a.1) (y := b.2) hb.2.1 h0 (by omega) ha.2.1 hb.2.1 (by omega)
    have i3 := divP_in (a := a) (x := a.2) (y := b.1) hb.2.1 h0 ha.2.1 (by omega) (by omega) hb.2.1
    have i4 := divP_in (a := a) (x := a.2) (y := b.2) hb.2.1 h0 ha.2.1 (by omega) hb.2.1 (by omega)
    have at' := divP_at (a := a) hb.2.1 h0
    simp only [opF, valF, corP, if_neg w0, if_neg w1, if_neg w2, e, lo4, hi4, Prod.ext_iff, true_and]
    generalize dnF a.1 b.1 = c1 at *
    generalize dnF a.1 b.2 = c2 at *
    generalize dnF a.2 b.1 = c3 at *
    generalize dnF a.2 b.2 = c4 at *
    generalize dnF (-a.1) b.1 = d1 at *
    generalize dnF (-a.1) b.2 = d2 at *
    generalize dnF (-a.2) b.1 = d3 at *
    generalize dnF (-a.2) b.2 = d4 at *
    generalize dnF x y = v at *
    generalize dnF (-x) y = u at *
    generalize (divP a b).1 = L at *
    generalize (divP a b).2 = U at *
    omega
theorem dn_pos {x y : Int} (hy : 0 < y) : (if ¬ x.tmod y = 0 ∧ x < 0 then x.tdiv y - 1 else x.tdiv y) = x / y := by
  have ht : x.tmod y = 0 ↔ y ∣ x := ⟨Int.dvd_of_tmod_eq_zero, Int.tmod_eq_zero_of_dvd⟩
  rw [Int.tdiv_eq_ediv, Int.sign_eq_one_of_pos hy]
  by_cases hd : y ∣ x
  · simp [ht, hd]
  · by_cases hx : x < 0
    · simp [ht, hd, hx, show ¬ 0 ≤ x by omega]
    · simp [ht, hd, hx, show 0 ≤ x by omega]
theorem dn_eq {x y : Int} (hy : y ≠ 0) : (if (!decide (x.tmod y = 0) && !decide (x < 0) == decide (y < 0)) = true then x.tdiv y - 1 else x.tdiv y) = dnF x y := by
  unfold dnF
  by_cases h : y < 0
  · rw [if_pos h, ← dn_pos (show 0 < -y by omega)]
    have e1 : (-x).tdiv (-y) = x.tdiv y := by rw [Int.tdiv_neg, Int.neg_tdiv, Int.neg_neg]
    have e2 : (-x).tmod (-y) = -(x.tmod y) := by rw [Int.tmod_neg, Int.neg_tmod]
    rw [e1, e2]
    have e3 : x = 0 → x.tmod y = 0 := fun h => by rw [h]; exact Int.zero_tmod _
    by_cases h1 : x.tmod y = 0
    · simp [h1]
    · by_cases h2 : x < 0
      · simp [h, h1, h2, show ¬ 0 < x by omega]
      · have : x ≠ 0 := fun hx => h1 (e3 hx)
        simp [h, h1, h2, show 0 < x by omega]
  · rw [if_neg h, ← dn_pos (show 0 < y by omega)]
    by_cases h1 : x.tmod y = 0
    · simp [h1]
    · by_cases h2 : x < 0
      · simp [h, h1, h2]
      · simp [h, h1, h2]
theorem dn_abs {x y M : Int} (hx : -M ≤ x ∧ x ≤ M) (hy : y ≠ 0) : -M ≤ dnF x y ∧ dnF x y ≤ M := by
  unfold dnF; split
  · exact quo_absM (by omega) (by omega)
  · exact quo_absM hx (by omega)

end Go.Proofs.Ytdognchniaojoaa
