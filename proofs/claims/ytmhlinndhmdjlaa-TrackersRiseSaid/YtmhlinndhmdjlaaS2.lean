/- Trackers in plain Lean: nothing wraps. -/
import Derived.Test.YtmhlinndhmdjlaaS
set_option linter.all false
namespace Go.Proofs.Ytmhlinndhmdjlaa
open Go

theorem w6_in {x : Int} (h1 : -9223372036854775808 ≤ x) (h2 : x ≤ 9223372036854775807) : w6 x = x := IntWalk.i64_in x (by omega)

theorem check_ok {l : List Part} {p t : Int} : checkF l p t = 0 ↔ l.length ≤ 8 ∧ headOk p t = true ∧ l.all partOk = true := by
  unfold checkF
  by_cases h8 : l.length > 8
  · simp [h8]; omega
  · rw [if_neg h8]
    cases h1 : headOk p t <;> cases h2 : l.all partOk <;> simp [h1, h2] <;> omega

theorem partOk_iff {p : Part} : partOk p = true ↔ 1 ≤ p.num ∧ p.num ≤ 12 ∧ 1 ≤ p.den ∧ p.den ≤ 12 ∧ 0 ≤ p.play ∧ p.play ≤ 5000 ∧ 0 ≤ p.weight ∧ p.weight ≤ 10000 := by
  simp only [partOk, inF, Bool.and_eq_true, decide_eq_true_eq]
  constructor
  · rintro ⟨⟨⟨⟨a, b⟩, c, d⟩, e, f⟩, g, h⟩; exact ⟨a, b, c, d, e, f, g, h⟩
  · rintro ⟨a, b, c, d, e, f, g, h⟩; exact ⟨⟨⟨⟨a, b⟩, c, d⟩, e, f⟩, g, h⟩

/-- Fractions that are small after i parts. -/
structure Sm (i : Nat) (q : Q) : Prop where
  n0 : 0 ≤ q.num
  n1 : q.num ≤ 12 ^ i * (100000 + 10000 * i)
  d0 : 0 < q.den
  d1 : q.den ≤ 12 ^ i

theorem p12 {i : Nat} (h : i ≤ 8) : (1 : Int) ≤ 12 ^ i ∧ (12 : Int) ^ i ≤ 429981696 := by
  have : ∀ i : Nat, i ≤ 8 → (1 : Int) ≤ 12 ^ i ∧ (12 : Int) ^ i ≤ 429981696 := by decide
  exact this i h

theorem nb {i : Nat} (h : i ≤ 8) : (12 : Int) ^ i * (100000 + 10000 * i) ≤ 77396705280000 := by
  have : ∀ i : Nat, i ≤ 8 → (12 : Int) ^ i * (100000 + 10000 * (i : Int)) ≤ 77396705280000 := by decide
  exact this i h

/-- Without wraps. -/
def lessR (q : Q) (n : Int) : Q := ⟨max 0 (q.num - n * q.den), q.den⟩
def timesR (q : Q) (p : Part) : Q := ⟨q.num * p.num, q.den * p.den⟩
def moreR (q : Q) (n : Int) : Q := ⟨q.num + n * q.den, q.den⟩

theorem mul_le' {a b c d : Int} (h1 : a ≤ c) (h2 : b ≤ d) (ha : 0 ≤ a) (hd : 0 ≤ d) : a * b ≤ c * d :=
  Int.le_trans (Int.mul_le_mul_of_nonneg_left h2 ha) (Int.mul_le_mul_of_nonneg_right h1 hd)

theorem less_eq {i : Nat} {q : Q} {n : Int} (h : Sm i q) (hi : i ≤ 8) (h0 : 0 ≤ n) (h1 : n ≤ 1000000) : lessF q n = lessR q n ∧ Sm i (lessR q n) := by
  have h2 := p12 hi
  have h3 := nb hi
  have h4 : n * q.den ≤ 1000000 * 429981696 := mul_le' h1 (Int.le_trans h.d1 h2.2) h0 (by omega)
  have h5 : 0 ≤ n * q.den := Int.mul_nonneg h0 (Int.le_of_lt h.d0)
  have := h.n0; have := h.n1
  refine ⟨?_, ?_⟩
  · unfold lessF lessR
    rw [w6_in (x := n * q.den) (by omega) (by omega), w6_in (by omega) (by omega)]
  · exact ⟨by simp only [lessR]; omega, by simp only [lessR]; omega, h.d0, h.d1⟩

theorem pow_succ12 (i : Nat) : (12 : Int) ^ (i + 1) = 12 ^ i * 12 := Int.pow_succ 12 i

theorem times_eq {i : Nat} {q : Q} {a b : Int} {pl we : Int} (h : Sm i q) (hi : i + 1 ≤ 8) (ha : 1 ≤ a) (ha' : a ≤ 12) (hb : 1 ≤ b) (hb' : b ≤ 12) :
    timesF q ⟨a, b, pl, we⟩ = timesR q ⟨a, b, pl, we⟩ ∧ Sm (i + 1) (timesR q ⟨a, b, pl, we⟩) ∧ (timesR q ⟨a, b, pl, we⟩).num ≤ 12 ^ (i + 1) * (100000 + 10000 * i) := by
  have h2 := p12 hi
  have h3 := nb hi
  have hn := h.n0; have hn1 := h.n1; have hd0 := h.d0; have hd1 := h.d1
  have e1 : q.num * a ≤ 12 ^ i * (100000 + 10000 * i) * 12 := mul_le' hn1 ha' hn (by omega)
  have e2 : q.den * b ≤ 12 ^ i * 12 := mul_le' hd1 hb' (Int.le_of_lt hd0) (by omega)
  have e3 : 0 ≤ q.num * a := Int.mul_nonneg hn (by omega)
  have e4 : 0 < q.den * b := Int.mul_pos hd0 (by omega)
  have e5 : (12 : Int) ^ i * (100000 + 10000 * i) * 12 = 12 ^ (i + 1) * (100000 + 10000 * i) := by rw [pow_succ12, Int.mul_assoc, Int.mul_comm _ 12, ← Int.mul_assoc]
  have e6 : (12 : Int) ^ (i + 1) * (100000 + 10000 * i) ≤ 12 ^ (i + 1) * (100000 + 10000 * (i + 1 : Nat)) := Int.mul_le_mul_of_nonneg_left (by omega) (by omega)
  rw [e5] at e1
  rw [← pow_succ12] at e2
  refine ⟨?_, ⟨e3, by simp only [timesR]; omega, e4, e2⟩, e1⟩
  unfold timesF timesR
  simp only
  rw [w6_in (x := q.num * a) (by omega) (by omega), w6_in (by omega) (by omega)]

theorem more_eq {i : Nat} {q : Q} {n : Int} (h : Sm (i + 1) q) (hn : q.num ≤ 12 ^ (i + 1) * (100000 + 10000 * i)) (hi : i + 1 ≤ 8) (h0 : 0 ≤ n) (h1 : n ≤ 10000) : moreF q n = moreR q n ∧ Sm (i + 1) (moreR q n) := by
  have h2 := p12 hi
  have h3 := nb hi
  have hn0 := h.n0; have hd0 := h.d0; have hd1 := h.d1
  have h4 : n * q.den ≤ 10000 * 12 ^ (i + 1) := mul_le' h1 hd1 h0 (by omega)
  have h5 : 0 ≤ n * q.den := Int.mul_nonneg h0 (Int.le_of_lt hd0)
  have h6 : (12 : Int) ^ (i + 1) * (100000 + 10000 * i) + 10000 * 12 ^ (i + 1) = 12 ^ (i + 1) * (100000 + 10000 * (i + 1 : Nat)) := by
    rw [Int.mul_comm 10000 ((12 : Int) ^ (i + 1)), ← Int.mul_add, show (100000 + 10000 * (i : Int) + 10000) = 100000 + 10000 * ((i + 1 : Nat) : Int) by omega]
  refine ⟨?_, ⟨by simp only [moreR]; omega, by simp only [moreR]; omega, hd0, hd1⟩⟩
  unfold moreF moreR
  rw [w6_in (x := n * q.den) (by omega) (by omega), w6_in (by omega) (by omega)]

/-- Parts that a chain can have, their play turned or not. -/
def PartR (p : Part) : Prop := 1 ≤ p.num ∧ p.num ≤ 12 ∧ 1 ≤ p.den ∧ p.den ≤ 12 ∧ 0 ≤ p.play ∧ p.play ≤ 5000 ∧ 0 ≤ p.weight ∧ p.weight ≤ 10000

theorem adj_ok {p : Part} {t turns : Int} (h : PartR p) (ht : 1 ≤ t ∧ t ≤ 5000) (hu : 0 ≤ turns ∧ turns ≤ 100) : PartR (adj t turns p) ∧ adj t turns p = { p with play := max 0 (p.play - turns * t) } := by
  have h1 : turns * t ≤ 100 * 5000 := mul_le' hu.2 ht.2 hu.1 (by omega)
  have h2 : 0 ≤ turns * t := Int.mul_nonneg hu.1 (by omega)
  obtain ⟨a, b, c, d, e, f, g, hh⟩ := h
  have e1 : adj t turns p = { p with play := max 0 (p.play - turns * t) } := by
    unfold adj
    rw [w6_in (x := turns * t) (by omega) (by omega), w6_in (by omega) (by omega)]
  refine ⟨?_, e1⟩
  rw [e1]
  exact ⟨a, b, c, d, by simp only; omega, by simp only; omega, g, hh⟩

def travelR (l : List Part) (q : Q) : Q := l.foldl (fun q p => timesR (lessR q p.play) p) q
def backR (l : List Part) (q : Q) : Q := l.foldl (fun q p => moreR ⟨q.num * p.den, q.den * p.num⟩ p.play) q
def touchR (l : List Part) (q : Q) : Q := l.foldl (fun q p => moreR (timesR q p) p.weight) q

theorem travel_eq : ∀ {l : List Part} {i : Nat} {q : Q}, (∀ p ∈ l, PartR p) → i + l.length ≤ 8 → Sm i q → travelF l q = travelR l q ∧ Sm (i + l.length) (travelR l q)
  | [], i, q, _, _, h => ⟨rfl, h⟩
  | p :: l, i, q, hp, hi, h => by
    obtain ⟨a, b, c, d, e, f, g, hh⟩ := hp p List.mem_cons_self
    simp only [List.length_cons] at hi
    obtain ⟨e1, s1⟩ := less_eq h (by omega) e (by omega : p.play ≤ 1000000)
    obtain ⟨e2, s2, _⟩ := times_eq (pl := p.play) (we := p.weight) s1 (by omega) a b c d
    obtain ⟨e3, s3⟩ := travel_eq (l := l) (i := i + 1) (fun x hx => hp x (List.mem_cons_of_mem _ hx)) (by omega) s2
    simp only [travelF, travelR, List.foldl_cons, List.length_cons] at e3 s3 ⊢
    rw [e1, show timesF (lessR q p.play) p = timesR (lessR q p.play) p from e2]
    exact ⟨e3, by rw [show i + (l.length + 1) = i + 1 + l.length by omega]; exact s3⟩

theorem back_eq : ∀ {l : List Part} {i : Nat} {q : Q}, (∀ p ∈ l, PartR p) → i + l.length ≤ 8 → Sm i q → backF l q = backR l q ∧ Sm (i + l.length) (backR l q)
  | [], i, q, _, _, h => ⟨rfl, h⟩
  | p :: l, i, q, hp, hi, h => by
    obtain ⟨a, b, c, d, e, f, g, hh⟩ := hp p List.mem_cons_self
    simp only [List.length_cons] at hi
    obtain ⟨e2, s2, n2⟩ := times_eq (pl := p.play) (we := p.weight) h (by omega) c d a b
    obtain ⟨e1, s1⟩ := more_eq s2 n2 (by omega) e (by omega : p.play ≤ 10000)
    obtain ⟨e3, s3⟩ := back_eq (l := l) (i := i + 1) (fun x hx => hp x (List.mem_cons_of_mem _ hx)) (by omega) s1
    simp only [backF, backR, List.foldl_cons, List.length_cons] at e3 s3 ⊢
    rw [show (⟨w6 (q.num * p.den), w6 (q.den * p.num)⟩ : Q) = timesR q ⟨p.den, p.num, p.play, p.weight⟩ from e2, e1]
    exact ⟨e3, by rw [show i + (l.length + 1) = i + 1 + l.length by omega]; exact s3⟩

theorem touch_eq : ∀ {l : List Part} {i : Nat} {q : Q}, (∀ p ∈ l, PartR p) → i + l.length ≤ 8 → Sm i q → touchF l q = touchR l q ∧ Sm (i + l.length) (touchR l q)
  | [], i, q, _, _, h => ⟨rfl, h⟩
  | p :: l, i, q, hp, hi, h => by
    obtain ⟨a, b, c, d, e, f, g, hh⟩ := hp p List.mem_cons_self
    simp only [List.length_cons] at hi
    obtain ⟨e2, s2, n2⟩ := times_eq (pl := p.play) (we := p.weight) h (by omega) a b c d
    obtain ⟨e1, s1⟩ := more_eq s2 n2 (by omega) g hh
    obtain ⟨e3, s3⟩ := touch_eq (l := l) (i := i + 1) (fun x hx => hp x (List.mem_cons_of_mem _ hx)) (by omega) s1
    simp only [touchF, touchR, List.foldl_cons, List.length_cons] at e3 s3 ⊢
    rw [show timesF q p = timesR q p from e2, show moreF (timesR q p) p.weight = moreR (timesR q p) p.weight from e1]
    exact ⟨e3, by rw [show i + (l.length + 1) = i + 1 + l.length by omega]; exact s3⟩

theorem parts_ok {l : List Part} (h : l.all partOk = true) : ∀ p ∈ l, PartR p := fun p hp => partOk_iff.1 (List.all_eq_true.1 h p hp)

theorem adjL_ok {l : List Part} {t turns : Int} (h : ∀ p ∈ l, PartR p) (ht : 1 ≤ t ∧ t ≤ 5000) (hu : 0 ≤ turns ∧ turns ≤ 100) : ∀ p ∈ adjL t turns l, PartR p := by
  cases l with
  | nil => exact h
  | cons p l =>
    intro x hx
    rcases List.mem_cons.1 hx with rfl | hx
    · exact (adj_ok (h p List.mem_cons_self) ht hu).1
    · exact h x (List.mem_cons_of_mem _ hx)

theorem sm0 {n : Int} (h0 : 0 ≤ n) (h1 : n ≤ 100000) : Sm 0 ⟨n, 1⟩ := ⟨h0, by simpa using h1, Int.zero_lt_one, by simp⟩

/-- The rounding up: both ways are one. -/
theorem ceil_eq {a b : Int} (ha : 0 ≤ a) (hb : 0 < b) : (a + b - 1).tdiv b = if a.tmod b = 0 then a.tdiv b else a.tdiv b + 1 := by
  rw [Int.tdiv_eq_ediv_of_nonneg ha, Int.tdiv_eq_ediv_of_nonneg (by omega), Int.tmod_eq_emod_of_nonneg ha]
  have h1 := Int.mul_ediv_add_emod a b
  have h2 := Int.emod_nonneg a (by omega : b ≠ 0)
  have h3 := Int.emod_lt_of_pos a hb
  split
  · rename_i hm
    have e : a + b - 1 = (b - 1) + b * (a / b) := by omega
    rw [e, Int.add_mul_ediv_left _ _ (by omega : b ≠ 0), Int.ediv_eq_zero_of_lt (by omega) (by omega)]
    omega
  · rename_i hm
    have e : a + b - 1 = (a % b - 1) + b * (a / b + 1) := by rw [Int.mul_add]; omega
    rw [e, Int.add_mul_ediv_left _ _ (by omega : b ≠ 0), Int.ediv_eq_zero_of_lt (by omega) (by omega)]
    omega

theorem tdiv_le {a b : Int} (ha : 0 ≤ a) (hb : 0 < b) : 0 ≤ a.tdiv b ∧ a.tdiv b ≤ a := by
  rw [Int.tdiv_eq_ediv_of_nonneg ha]
  exact ⟨Int.ediv_nonneg ha (Int.le_of_lt hb), Int.ediv_le_self b ha⟩

theorem iv_eq {i : Nat} {q : Q} (h : Sm i q) (hi : i ≤ 8) : ivHi q = rivHi q ∧ ivLo q = q.num / q.den ∧ ivHi q = (q.num + q.den - 1) / q.den := by
  have h3 := nb hi
  have h2 := p12 hi
  have hn := h.n0; have hn1 := h.n1; have hd0 := h.d0; have hd1 := h.d1
  have t1 := tdiv_le hn hd0
  have t2 := tdiv_le (a := q.num + q.den - 1) (by omega) hd0
  have e1 : ivHi q = (q.num + q.den - 1).tdiv q.den := by
    unfold ivHi
    rw [w6_in (x := q.num + q.den) (by omega) (by omega), w6_in (x := q.num + q.den - 1) (by omega) (by omega), w6_in (by omega) (by omega)]
  have e2 : rivHi q = if q.num.tmod q.den = 0 then q.num.tdiv q.den else q.num.tdiv q.den + 1 := by
    unfold rivHi
    rw [w6_in (x := q.num.tdiv q.den) (by omega) (by omega), w6_in (by omega) (by omega)]
  refine ⟨by rw [e1, e2, ceil_eq hn hd0], ?_, by rw [e1, Int.tdiv_eq_ediv_of_nonneg (by omega)]⟩
  unfold ivLo
  rw [w6_in (by omega) (by omega), Int.tdiv_eq_ediv_of_nonneg hn]

end Go.Proofs.Ytmhlinndhmdjlaa
